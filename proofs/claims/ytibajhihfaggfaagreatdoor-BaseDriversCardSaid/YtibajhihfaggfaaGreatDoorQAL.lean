/- Part of BaseDrivers. No condition. -/
import Derived.Test.YtibajhihfaggfaaGreatDoorQAH
import Derived.Test.YtibajhihfaggfaaGreatDoorQAK
set_option linter.all false
set_option maxRecDepth 100000
set_option maxHeartbeats 0
namespace Go.Proofs.Gm
open Go.Proofs.Tryz Go.RowKit Go.Maps Go.Proofs.Bm
variable {C:Ctx}{V:YC}{l:Zi}{E:UB}{wd:Nat}
def OwnR.afp{S S':Wq}{w:YC}{v:YE}{rows:Zg}{B:Nat}(h:OwnR B S w E wd v rows)(hS:∀b,S b->b < w.heap.size->S' b)(hB:∀b,v.ownBlock=some b->S' b):an S' w (.sl rows) v:=by
 obtain⟨css,h1,h2,h3⟩:=h;have hlen:=ee h1;have mu:=jA (Q:=λcs=>cs.length=wd) h1 λ_ _ h=>h.1;rcases h3 with⟨rfl,h0⟩|⟨g,cap,cur,rfl,hb,WC,h4,h5,h6,h7⟩
 .exact Ee
 .refine GG ?_;intro bQ aL;refine .sl rows g 0 cap wd (λk j=>css.flatten.getD (k*wd+j) undef) (hB g rfl) bQ h4 h5 ?_ ?_ ?_
  .exact uf
  .exact JT
  exact tS
def fH(W:YC)(g:Nat)(cs:Zt):Kept (λk=>k=g) W (W.setRow g cs):=⟨rfl,rfl,rfl,by simp,λk _ hn=>setRow_other W g k cs hn⟩
structure Own where
 E:TypeId
 wd:Nat
 v:Value
 rows:List Row
def Fr(w:YC)(bs:List (Nat×Obj))(os:List Own)(b:Nat):Prop:=w.heap.size<=b/\b∉bs.map Prod.fst/\∀o∈os,o.v.ownBlock≠some b
structure SgW (C:Ctx) (w:YC) (l:Zi) (V:YC):Prop where
 ps:PS C V l
 kp:Kept (ch C) w V
 pw:C.p < w.heap.size
 gw:C.g < w.heap.size
def SgW.le{w:YC}(h:SgW C w l V):w.heap.size<=V.heap.size:=h.kp.size
def SgW.step{w V':YC}{F:Wq}(h:SgW C w l V)(hk:Kept F V V')(hF:∀b,F b->w.heap.size<=b)(fm:an (λb=>b < C.Bd/\b≠C.p) V' (.sl (strs C.fs)) C.fv):SgW C w l V':=
 ⟨h.ps.aeJ hk (λe=>by have:=hF _ e;have:=h.pw;omega) (λe=>by have:=hF _ e;have:=h.gw;omega) fm,h.kp.trans hk Lf,h.pw,h.gw⟩
def Ff(C:Ctx)(bs:List (Nat×Obj))(os:List Own)(b:Nat):Prop:=b < C.Bd/\b≠C.p/\b∉bs.map Prod.fst/\∀o∈os,o.v.ownBlock≠some b
structure ST (C:Ctx) (w:YC) (l:Zi) (bs:List (Nat×Obj)) (os:List Own) (ds:List (T×Value)) (V:YC):Prop where
 sg:SgW C w l V
 fm:an (Ff C bs os) V (.sl (strs C.fs)) C.fv
 bx:∀q∈bs,w.heap.size<=q.1/\V.heap[q.1]?=some q.2
 nd:(bs.map Prod.fst).Nodup
 nb:∀o∈os,∀b,o.v.ownBlock=some b->b∉bs.map Prod.fst
 no:∀(i j:Nat) (oi oj:Own) (b:Nat),os[i]?=some oi->os[j]?=some oj->oi.v.ownBlock=some b->oj.v.ownBlock=some b->i=j
 ow:∀(i:Nat) (o:Own),os[i]?=some o->OwnR w.heap.size (λb=>w.heap.size<=b/\b∉bs.map Prod.fst/\∀(j:Nat) (oj:Own),os[j]?=some oj->j≠i->oj.v.ownBlock≠some b) V o.E o.wd o.v o.rows
 dt:∀d∈ds,an (Fr w bs os) V d.1 d.2
namespace ST
variable {C:Ctx}{w V V':YC}{l r:Zi}{bs:List (Nat×Obj)}{os:List Own}{ds:List (T×Value)}{F:Nat -> Prop}{t:T}{v:YE}{b i:Nat}{o:Obj}
def start(h:PS C w l):ST C w l [] [] [] w:=⟨⟨h,Kept.refl _ w,qD h.pb h.bd,qD h.gb h.bd⟩,h.fm.mono λb hb _=>⟨hb.1,hb.2,by simp,by simp⟩,by simp,by simp,by simp,by simp,by simp,by simp⟩
def ps(h:ST C w l bs os ds V):PS C V l:=h.sg.ps
def pw(h:ST C w l bs os ds V):C.p < w.heap.size:=h.sg.pw
def inw(h:ST C w l bs os ds V)(hi:bs[i]?=some (b,o)):w.heap.size<=b:=(h.bx _ (cm hi)).1
def heap(h:ST C w l bs os ds V)(i:Nat)(hi:bs[i]?=some (b,o):=by rfl):V.heap[b]?=some o:=(h.bx _ (cm hi)).2
def cell(h:ST C w l bs os ds V)(i j:Nat){cs:Zt}{T:UB}(hi:bs[i]?=some (b,.cells cs T (0,0)):=by rfl):V.cell? ⟨b,j,none⟩=cs[j]?:=aC (h.heap i hi) j
def lg(h:ST C w l bs os ds V)(i j:Nat){cs:Zt}{T:UB}(hi:bs[i]?=some (b,.cells cs T (0,0)):=by rfl):V.frozen? ⟨b,j,none⟩=false:=al (h.heap i hi) j
def data(h:ST C w l bs os ds V)(i:Nat)(hi:ds[i]?=some (t,v):=by rfl):an (Fr w bs os) V t v:=h.dt _ (cm hi)
def new(h:ST C w l bs os ds V)(i:Nat)(hi:ds[i]?=some (t,v):=by rfl):an w V t v:=(h.data i hi).mono λ_ hb _=>hb.1
def lt(h:ST C w l bs os ds V)(q:Nat×Obj)(hq:q∈bs):q.1 < V.heap.size:=(aQ.1 (h.bx q hq).2).1
def olt(h:ST C w l bs os ds V){x:Own}(hx:x∈os)(e:x.v.ownBlock=some b):w.heap.size<=b/\b < V.heap.size:=by obtain⟨i,hi⟩:=JI hx;exact(h.ow i x hi).lt b e
def carry(h:ST C w l bs os ds V)(hs:SgW C w r V')(hfm:an (Ff C bs os) V' (.sl (strs C.fs)) C.fv)(hk:Kept F V V')(hF:∀b,F b->b < V.heap.size->b < w.heap.size):ST C w r bs os ds V':=by
 refine⟨hs,hfm,λq hq=>⟨(h.bx q hq).1,(hk.block _ (h.lt q hq) sr).trans (h.bx q hq).2⟩,h.nd,h.nb,h.no,λi o hi=>?_,λd hd=>?_⟩
 .exact ub
 exact uj
def aB(h:ST C w l bs os ds V)(hp:PS C V' r)(hk:Kept (ch C) V V'):ST C w r bs os ds V':=
 h.carry ⟨hp,h.sg.kp.trans' hk,h.sg.pw,h.sg.gw⟩ (h.fm.kept hk λ_ hb _ e=>hb.2.1 e) hk λb e _=>by have:=h.pw;unfold ch at e;omega
def zd(h:ST C w l bs os ds V)(hk:Kept aK V V'):ST C w l bs os ds V':=h.aB (h.ps.kept hk λ_ e=>e.elim) (aK.to hk)
def drew(h:ST C w l bs os ds V):ST C w l bs os ds V.drew:=h.zd (Kept.refl _ V).drew
def alloc(h:ST C w l bs os ds V)(x:Obj):ST C w l bs os ds (V.alloc x):=h.zd ((Kept.refl _ V).alloc x)
def free(h:ST C w l bs os ds V)(hb:V.heap.size<=b):Fr w bs os b:=by
 refine⟨cn h.sg.le hb,λhm=>?_,λx hx e=>?_⟩
 .obtain⟨q,hq,rfl⟩:=dO.1 hm;have:=h.lt q hq;omega
 .have:=(h.olt hx e).2;omega
def dj(h:ST C w l bs os ds V){fs:Y9}{fv:YE}{Bd:Nat}(hB:C.Bd<=Bd)(Ma:Bd<=V.heap.size)(fm:an (λb=>b < Bd/\b≠C.p/\b∉bs.map Prod.fst/\∀o∈os,o.v.ownBlock≠some b) V (.sl (strs fs)) fv):ST (C.dj fs fv Bd) w l bs os ds (V.setCell ⟨C.p,4,none⟩ fv):=by
 have hk:Kept (ch C) V (V.setCell ⟨C.p,4,none⟩ fv):=(Kept.refl _ V).setCell (p:=⟨C.p,4,none⟩) (λ_=>show ch C C.p from rfl) _;have hF:∀b,ch C b->b < V.heap.size->b < w.heap.size:=λb e _=>by have:=h.pw;unfold ch at e;omega
 refine⟨⟨h.ps.dj hB Ma (fm.mono λb hb _=>⟨hb.1,hb.2.1⟩),h.sg.kp.trans' hk,h.sg.pw,h.sg.gw⟩,fm.kept hk λ_ hb _ e=>hb.2.1 e,λq hq=>⟨(h.bx q hq).1,(hk.block _ (h.lt q hq) sr).trans (h.bx q hq).2⟩,h.nd,h.nb,h.no,λi o hi=>?_,λd hd=>?_⟩
 .exact ub
 exact uj
def ON(h:ST C w l bs os ds V)(hd:an (Fr w bs os) V t v):ST C w l bs os ((t,v)::ds) V:=
 ⟨h.sg,h.fm,h.bx,h.nd,h.nb,h.no,h.ow,λd hd'=>by
  rcases cZ.1 hd' with rfl|hd'
  .exact hd
  .exact h.dt d hd'⟩
def IM(h:ST C w l bs os ds V)(hp:PS C V' r)(hk:Kept (ch C) V V')(hd:an V V' t v):ST C w r bs os ((t,v)::ds) V':=
 (h.aB hp hk).ON (hd.mono λ_ hb _=>h.free hb)
def nil(h:ST C w l bs os ds V):ST C w l bs os ((.sl [],sV none 0 0)::ds) V:=h.ON .nil
def ajY(h:ST C w l bs os ds V)(hk:Kept aK V V'){g:Nat}{o:Obj}(hg:V.heap.size<=g)(ho:V'.heap[g]?=some o):ST C w l ((g,o)::bs) os ds V':=by
 have ha:=h.zd hk;have hf:=h.free hg;have Yu:∀b,b < V.heap.size->b∉bs.map Prod.fst->b∉((g,o)::bs).map Prod.fst:=λb hl hb hm=>by
  rw[lp] at hm;rcases cZ.1 hm with e|hm
  .dsimp only at e;omega
  .exact hb hm
 refine⟨ha.sg,((h.fm.mono λb hb hl=>(⟨hb.1,hb.2.1,Yu b hl hb.2.2.1,hb.2.2.2⟩:Ff C ((g,o)::bs) os b)).kept (F:=aK) hk λ_ _ _ e=>e),λq hq=>?_,?_,λx hx b e=>Yu b (h.olt hx e).2 (h.nb x hx b e),h.no,λi x hi=>?_,λd hd=>?_⟩
 .rcases cZ.1 hq with rfl|hq
  .exact⟨cn h.sg.le hg,ho⟩
  .exact ha.bx q hq
 .rw[lp,M2];exact⟨hf.2.1,h.nd⟩
 .exact((h.ow i x hi).mono λb hb hl=>⟨hb.1,Yu b hl hb.2.1,hb.2.2⟩).kept (F:=aK) hk (λ_ _ _ e=>e) (λ_ _ e=>e)
 .exact((h.dt d hd).mono λb hb hl=>⟨hb.1,Yu b hl hb.2.1,hb.2.2⟩).kept (F:=aK) hk (λ_ _ _ e=>e)
def box(h:ST C w l bs os ds V)(o:Obj):ST C w l ((V.heap.size,o)::bs) os ds (V.alloc o):=
 h.ajY ((Kept.refl _ V).alloc o) (aM _) ao
def ajZ(h:ST C w l bs os ds V)(o:Obj)(g:Nat)(hg:V.heap.size=g):ST C w l ((g,o)::bs) os ds (V.alloc o):=by subst hg;exact h.box o
def TT{t:aF}(h:ST C w (t::r) bs os ds V){n:Nat}{v:Int}(hn:n+(t::r).length=C.L.length)(hv:v=(n:Int)+1):ST C w r bs os ds (V.setCell ⟨C.p,1,none⟩ (iV v)):=by exact DD
def aiv(h:ST C w l bs os ds V)(hk:Kept (λk=>k=b) V V')(i:Nat)(hi:bs[i]?=some (b,o)){o':Obj}(ho:V'.heap[b]?=some o'):ST C w l (bs.set i (b,o')) os ds V':=by
 have hw:=h.inw hi;have hlen:=(dk.1 hi).1;have hbm:b∈bs.map Prod.fst:=dO.2 ⟨_,cm hi,rfl⟩;have e1:(bs.set i (b,o')).map Prod.fst=bs.map Prod.fst:=by
  rw[List.map_set];apply List.ext_getElem?
  intro j;rw[List.getElem?_set];split
  .rename_i e;subst e;simp only[qC,hi];simp[hlen]
  .rfl
 have hfm:=h.fm.kept hk λb' hb _ e=>hb.2.2.1 rL;refine⟨h.sg.step hk (λb' e=>by omega) (hfm.mono λ_ hb _=>⟨hb.1,hb.2.1⟩),hfm.mono λ_ hb _=>⟨hb.1,hb.2.1,by rw[e1];exact hb.2.2.1,hb.2.2.2⟩,λq hq=>?_,by rw[e1];exact h.nd,by rw[e1];exact h.nb,h.no,λi x hx=>?_,λd hd=>?_⟩
 .obtain⟨j,hj⟩:=JI hq;rw[List.getElem?_set] at hj;split at hj
  .rename_i e;subst e;simp only[hlen,xN,wY] at hj;subst hj;exact⟨hw,ho⟩
  .rename_i cR;have hm:=cm hj;refine⟨(h.bx q hm).1,(hk.block _ (h.lt q hm) λe=>?_).trans (h.bx q hm).2⟩;have Ij:=h.nd;have h1:(bs.map Prod.fst)[i]?=some b:=by simp[hi]
   have h2:(bs.map Prod.fst)[j]?=some b:=by simp[hj,e]
   have:=(List.getElem?_inj (by simpa using hlen) Ij).1 (h1.trans h2.symm);omega
 .simp only[e1];exact(h.ow i x hx).kept hk (λb' hb _ e=>hb.2.1 rL) λb' hb e=>h.nb x (cm hx) b' hb rL
 .have:Fr w (bs.set i (b,o')) os=Fr w bs os:=by funext b';unfold Fr;rw[e1]
  rw[this];exact(h.dt d hd).kept hk λb' hb _ e=>hb.2.1 rL
def set(h:ST C w l bs os ds V)(i j:Nat)(u:YE)(c':Zt){cs:Zt}{T:UB}(hi:bs[i]?=some (b,.cells cs T (0,0)):=by rfl)(he:cs.setIfInBounds j u=c':=by rfl):ST C w l (bs.set i (b,cO c' T)) os ds (V.setCell ⟨b,j,none⟩ u):=
 h.aiv (au b j u) i hi (he▸heap_setCell_same V b j u (h.heap i hi))
def st(h:ST C w l bs os ds V)(i j:Nat)(v:YE){cs:Zt}{T:UB}{l':YT}(hi:bs[i]?=some (b,.cells cs T (0,0)):=by rfl)(e:rp cs.toList j v l':=by repeat (first|exact rp.z|apply rp.s)):ST C w l (bs.set i (b,cO l'.toArray T)) os ds (V.setCell ⟨b,j,none⟩ v):=h.set i j v l'.toArray hi e.arr
def c{P:T1}{f:RB}{args:Zt}{v:YE}{R:VW}(h:ST C w l bs os ds V)(k:Calls P f args V λe w'=>e=.returned v/\PS C w' r/\Kept (ch C) V w')(q:∀w',ST C w r bs os ds w'->R (.returned v) w'):Calls P f args V R:=bY k λw' a b=>q w' (h.aB a b)
def row(h:ST C w l bs os ds V)(i:Nat)(cs:Zt){c0:Zt}{T:UB}(hi:bs[i]?=some (b,.cells c0 T (0,0)):=by rfl):ST C w l (bs.set i (b,cO cs T)) os ds (V.setRow b cs):=
 h.aiv (fH V b cs) i hi (lz V b c0 cs T (0,0) (h.heap i hi))
def aj0(h:ST C w l bs os ds V)(i:Nat){cs:Zt}{T:UB}{rw:Row}(hr:aP w V rw cs.toList)(hi:bs[i]?=some (b,.cells cs T (0,0)):=by rfl):an w V (.sl [rw]) (sV (some ⟨b,0,none⟩) 1 1):=
 aW (E:=T) (fr:=(0,0)) (wd:=cs.toList.length) (css:=[cs.toList]) (arr:=cs) (h.heap i hi) ai (.cons ⟨rfl,hr⟩ .nil) (h.inw hi) (aM _) cP
def lay(h:ST C w l bs os ds V){rw:Row}{cs:YT}{T:UB}(hr:aP (Fr w bs os) V rw cs):ST C w l bs os ((.sl [rw],sV V 1 1)::ds) (V.alloc (cO cs.toArray T)):=by have ha:=h.alloc (cO cs.toArray T);have h1:=hr.kept (F:=aK) ((Kept.refl _ V).alloc (cO cs.toArray T)) λ_ _ _ e=>e;exact ha.ON (aW (E:=T) (fr:=(0,0)) (wd:=cs.length) (css:=[cs]) (arr:=cs.toArray) ao ai (.cons ⟨rfl,h1⟩ .nil) (h.free (aM _)) (aM _) cP)
def sub{ds':List (T×Value)}(h:ST C w l bs os ds V)(hd:∀d∈ds',d∈ds):ST C w l bs os ds' V:=⟨h.sg,h.fm,h.bx,h.nd,h.nb,h.no,h.ow,λd hd'=>h.dt d (hd d hd')⟩
def Uk{a:T×Value}(h:ST C w l bs os (a::ds) V):ST C w l bs os ds V:=h.sub λ_ h=>eC _ h
def apx{a b:T×Value}(h:ST C w l bs os (a::b::ds) V):ST C w l bs os (a::ds) V:=h.sub λ_ h=>(cZ.1 h).elim (λe=>e▸eu) λh=>eC _ (eC _ h)
def aqs{q:Nat×Obj}(h:ST C w l (q::bs) os ds V)(hk:Kept (λj=>j=q.1) V V'):ST C w l bs os ds V':=by
 have hw:=(h.bx q ai).1;have Ij:=h.nd;have hq1:∀b,b=q.1->b∈(q::bs).map Prod.fst:=λb e=>by rw[e];simp
 have hup:∀b,b∉(q::bs).map Prod.fst->b∉bs.map Prod.fst:=λb hb hm=>hb Hk;rw[lp,M2] at Ij;have hfm:=h.fm.kept hk λb hb _ e=>hb.2.2.1 (hq1 b e);refine⟨h.sg.step hk lK (hfm.mono λ_ hb _=>⟨hb.1,hb.2.1⟩),hfm.mono λ_ hb _=>⟨hb.1,hb.2.1,hup _ hb.2.2.1,hb.2.2.2⟩,λq' hq=>?_,Ij.2,λx hx b e=>hup b (h.nb x hx b e),h.no,λi x hx=>?_,λd hd=>?_⟩
 .have hm:q'∈q::bs:=by simp[hq]
  exact⟨(h.bx q' hm).1,(hk.block _ (h.lt q' hm) λe=>Ij.1 (e▸dO.2 ⟨q',hq,rfl⟩)).trans (h.bx q' hm).2⟩
 .exact((h.ow i x hx).kept hk (λb hb _ e=>hb.2.1 (hq1 b e)) λb hb e=>h.nb x (cm hx) b hb (hq1 b e)).mono λb hb _=>⟨hb.1,hup b hb.2.1,hb.2.2⟩
 .exact((h.dt d hd).kept hk λb hb _ e=>hb.2.1 (hq1 b e)).mono λb hb _=>⟨hb.1,hup b hb.2.1,hb.2.2⟩
def own(h:ST C w l bs os ds V)(E:UB)(wd:Nat):ST C w l bs (⟨E,wd,sV none 0 0,[]⟩::os) ds V:=by
 have hn:∀b:Nat,(Value.slice none 0 0).ownBlock≠some b:=λb e=>by cases e
 refine⟨h.sg,h.fm.mono λb hb _=>⟨hb.1,hb.2.1,hb.2.2.1,λx hx=>by rcases cZ.1 hx with rfl|hx;exact hn b;exact hb.2.2.2 x hx⟩,h.bx,h.nd,λx hx b e=>?_,λi j oi oj b hi hj e1 e2=>?_,λi x hi=>?_,λd hd=>(h.dt d hd).mono λb hb _=>⟨hb.1,hb.2.1,λx hx=>?_⟩⟩
 .rcases cZ.1 hx with rfl|hx
  .exact absurd e (hn b)
  .exact h.nb x hx b e
 .cases i with
  |zero=>simp at hi;subst hi;exact absurd e1 (hn b)
  |succ i=>cases j with
   |zero=>simp at hj;subst hj;exact absurd e2 (hn b)
   |succ j=>rw[h.no i j oi oj b dA bO e1 e2]
 .cases i with
  |zero=>simp at hi;subst hi;exact .nil
  |succ i=>
   refine(h.ow i x dA).mono λb hb _=>⟨hb.1,hb.2.1,λj oj hj cR=>?_⟩
   cases j with
   |zero=>simp at hj;subst hj;exact hn b
   |succ j=>exact hb.2.2 j oj bO ab
 .rcases cZ.1 hx with rfl|hx
  .exact hn b
  .exact hb.2.2 x hx
def grown{x:Own}{v':YE}{aj1:Zg}(h:ST C w l bs (x::os) ds V)(hk:Kept (λj=>x.v.ownBlock=some j) V V')(hv:v'.ownBlock=x.v.ownBlock∨∀b,v'.ownBlock=some b->V.heap.size<=b)(hO:OwnR w.heap.size (λb=>w.heap.size<=b/\b∉bs.map Prod.fst/\∀o∈os,o.v.ownBlock≠some b) V' x.E x.wd v' aj1):ST C w l bs (⟨x.E,x.wd,v',aj1⟩::os) ds V':=by
 have QS:x∈x::os:=ai;have cR:∀o∈os,∀b,o.v.ownBlock=some b->x.v.ownBlock≠some b:=λo ho b e1 e2=>by
  obtain⟨j,hj⟩:=JI ho;have:=h.no 0 (j+1) x o b rfl bO e2 e1;omega
 have jo:∀b,v'.ownBlock=some b->b < V.heap.size->x.v.ownBlock=some b:=λb e hl=>by
  rcases hv with hv|hv
  .rw[<-hv,e]
  .have:=hv b e;omega
 have QK:∀b,v'.ownBlock=some b->b∉bs.map Prod.fst/\∀o∈os,o.v.ownBlock≠some b:=λb e=>by
  refine⟨λhm=>?_,λo ho e2=>?_⟩
  .obtain⟨q,hq,rfl⟩:=dO.1 hm;exact h.nb x QS _ (jo _ e (h.lt q hq)) hm
  .exact cR o ho b e2 (jo b e (h.olt (eC _ ho) e2).2)
 have hfm:=((h.fm.mono (S':=λb=>Ff C bs (x::os) b/\b < V.heap.size) λb hb hl=>⟨hb,hl⟩).kept hk λb hb _ e=>hb.1.2.2.2 x QS e)
 refine⟨h.sg.step hk (λb e=>(h.olt QS e).1) (hfm.mono λ_ hb _=>⟨hb.1.1,hb.1.2.1⟩),hfm.mono λb hb _=>⟨hb.1.1,hb.1.2.1,hb.1.2.2.1,λy hy=>by rcases cZ.1 hy with rfl|hy;exact λe=>hb.1.2.2.2 x QS (jo b e hb.2);exact hb.1.2.2.2 y (eC _ hy)⟩,λq hq=>⟨(h.bx q hq).1,(hk.block _ (h.lt q hq) λe=>h.nb x QS _ e (dO.2 ⟨q,hq,rfl⟩)).trans (h.bx q hq).2⟩,h.nd,λy hy b e=>?_,λi j oi oj b hi hj e1 e2=>?_,λi y hi=>?_,λd hd=>?_⟩
 .rcases cZ.1 hy with rfl|hy
  .exact(QK b e).1
  .exact h.nb y (eC _ hy) b e
 .cases i with
  |zero=>cases j with
   |zero=>rfl
   |succ j=>simp at hi;subst hi;exact absurd e2 ((QK b e1).2 oj (cm bO))
  |succ i=>cases j with
   |zero=>simp at hj;subst hj;exact absurd e1 ((QK b e2).2 oi (cm dA))
   |succ j=>exact h.no (i+1) (j+1) oi oj b dA bO e1 e2
 .cases i with
  |zero=>
   simp at hi;subst hi;refine hO.mono λb hb _=>⟨hb.1,hb.2.1,λj oj hj aog=>?_⟩
   cases j with
   |zero=>omega
   |succ j=>exact hb.2.2 oj (cm bO)
  |succ i=>
   have hi':os[i]?=some y:=dA;have h1:=h.ow (i+1) y dA;refine((h1.mono (S':=λb=>(w.heap.size<=b/\b∉bs.map Prod.fst/\∀(j:Nat) (oj:Own),(x::os)[j]?=some oj->j≠i+1->oj.v.ownBlock≠some b)/\b < V.heap.size) λb hb hl=>⟨hb,hl⟩).kept hk (λb hb _ e=>hb.1.2.2 0 x rfl ab e) λb e1 e2=>?_).mono λb hb _=>⟨hb.1.1,hb.1.2.1,λj oj hj aog=>?_⟩
   .have:=h.no 0 (i+1) x y b rfl dA e2 e1;omega
   .cases j with
    |zero=>simp at hj;subst hj;exact λe=>hb.1.2.2 0 x rfl ab (jo b e hb.2)
    |succ j=>exact hb.1.2.2 (j+1) oj bO aog
 .refine(((h.dt d hd).mono (S':=λb=>Fr w bs (x::os) b/\b < V.heap.size) λb hb hl=>⟨hb,hl⟩).kept hk λb hb _ e=>hb.1.2.2 x QS e).mono λb hb _=>⟨hb.1.1,hb.1.2.1,λy hy=>?_⟩
  rcases cZ.1 hy with rfl|hy
  .exact λe=>hb.1.2.2 x QS (jo b e hb.2)
  .exact hb.1.2.2 y (eC _ hy)
def Tm{x:Own}(h:ST C w l bs (x::os) ds V):ST C w l bs os ((.sl x.rows,x.v)::ds) V:=by
 have QS:x∈x::os:=ai;refine⟨h.sg,h.fm.mono λb hb _=>⟨hb.1,hb.2.1,hb.2.2.1,λy hy=>hb.2.2.2 y (eC _ hy)⟩,h.bx,h.nd,λy hy=>h.nb y (eC _ hy),λi j oi oj b hi hj e1 e2=>?_,λi y hi=>?_,λd hd=>?_⟩
 .have:=h.no (i+1) (j+1) oi oj b dA bO e1 e2;omega
 .exact(h.ow (i+1) y dA).mono λb hb _=>⟨hb.1,hb.2.1,λj oj hj cR=>hb.2.2 (j+1) oj bO ab⟩
 .rcases cZ.1 hd with rfl|hd
  .refine(h.ow 0 x rfl).afp (λb hb _=>⟨hb.1,hb.2.1,λy hy=>?_⟩) λb e=>⟨(h.olt QS e).1,h.nb x QS b e,λy hy e2=>?_⟩
   .obtain⟨j,hj⟩:=JI hy;exact hb.2.2 (j+1) y bO ab
   .obtain⟨j,hj⟩:=JI hy;have:=h.no 0 (j+1) x y b rfl bO e e2;omega
  .exact(h.dt d hd).mono λb hb _=>⟨hb.1,hb.2.1,λy hy=>hb.2.2 y (eC _ hy)⟩
def lens{x:Own}(h:ST C w l bs (x::os) ds V):∀row∈x.rows,row.length=x.wd:=(h.ow 0 x rfl).lens
def afq{g:Nat}{cx:Zt}{E:UB}{wd:Nat}{x:Row}(h:ST C w l ((g,cO cx E)::bs) os ds V)(hx:aP (Fr w ((g,Obj.cells cx E)::bs) os) V x cx.toList)(hl:x.length=wd):ST C w l bs (⟨E,wd,sV g 1 1,[x]⟩::os) ds V:=by
 have Ij:=h.nd;rw[lp,M2] at Ij;have hg:∀b,(Value.slice g 1 1).ownBlock=some b->b=g:=λb e=>by simp[Value.ownBlock] at e;exact e.symm
 have hgm:g∈((g,Obj.cells cx E)::bs).map Prod.fst:=ai;have hup:∀b,b∉((g,Obj.cells cx E)::bs).map Prod.fst->b∉bs.map Prod.fst:=λb hb hm=>hb Hk;refine⟨h.sg,h.fm.mono λb hb _=>⟨hb.1,hb.2.1,hup b hb.2.2.1,λy hy e=>by rcases cZ.1 hy with rfl|hy;exact hb.2.2.1 wh;exact hb.2.2.2 y hy e⟩,λq hq=>h.bx q (eC _ hq),Ij.2,λy hy b e=>?_,λi j oi oj b hi hj e1 e2=>?_,λi y hi=>?_,λd hd=>(h.dt d hd).mono λb hb _=>⟨hb.1,hup b hb.2.1,λy hy e=>?_⟩⟩
 .rcases cZ.1 hy with rfl|hy
  .rw[hg b e];exact Ij.1
  .exact hup b (h.nb y hy b e)
 .cases i with
  |zero=>cases j with
   |zero=>rfl
   |succ j=>simp at hi;subst hi;have:=hg b e1;subst this;exact absurd hgm (h.nb oj (cm bO) b e2)
  |succ i=>cases j with
   |zero=>simp at hj;subst hj;have:=hg b e2;subst this;exact absurd hgm (h.nb oi (cm dA) b e1)
   |succ j=>rw[h.no i j oi oj b dA bO e1 e2]
 .cases i with
  |zero=>
   simp at hi;subst hi;refine OwnR.Ry (arr:=cx) (h.heap 0) rfl (by rw[<-hl,hx.1]) (h.inw (i:=0) rfl) (hx.mono λb hb _=>⟨⟨hb.1,hup b hb.2.1,λj oj hj cR=>?_⟩,λe=>hb.2.1 (by rw[e];exact hgm)⟩)
   cases j with
   |zero=>omega
   |succ j=>exact hb.2.2 oj (cm bO)
  |succ i=>
   refine(h.ow i y dA).mono λb hb _=>⟨hb.1,hup b hb.2.1,λj oj hj cR=>?_⟩
   cases j with
   |zero=>simp at hj;subst hj;exact λe=>hb.2.1 wh
   |succ j=>exact hb.2.2 j oj bO ab
 .rcases cZ.1 hy with rfl|hy
  .exact hb.2.1 wh
  .exact hb.2.2 y hy e
end ST
structure aoh (T E:UB) (wd:Nat):Prop where
 ok:∃(i:TypeInfo) (z:YE) (bytes:Nat),prog.underlying T=some (.slice E)/\prog.info? E=some i/\i.zero=some z/\i.size=wd/\i.bytes=bytes/\z.cells.size=wd/\0 < wd/\bytes<=1000
def aaE(P:T1)(T E:UB)(wd:Nat):Bool:=((P.underlying T).any λd=>match d with|.slice e=>e==E|_=>false)&&((P.info? E).any λi=>i.zero.any λz=>z.cells.size==wd&&i.size==wd&&decide (i.bytes<=1000))&&decide (0 < wd)
def aaF{T:UB}(h:aaE prog T E wd=true):aoh T E wd:=by
 simp only[aaE,dD,oM,Option.any_eq_true,dU] at h;obtain⟨⟨⟨d,h1,h1'⟩,i,h2,z,h3,⟨h4,h5⟩,h6⟩,h7⟩:=h;split at h1'
 .rw[dU] at h1';subst h1';exact⟨i,z,i.bytes,h1,h2,h3,h5,rfl,h4,h7,h6⟩
 .cases h1'
section
variable {C:Ctx}{w V:YC}{r:Zi}{bs:List (Nat×Obj)}{os:List Own}{ds:List (T×Value)}{x:Own}{y:Row}{rows2:Zg}{ad:YS}{m c:Nat}{o:RZ}{a:Act}{T:UB}
def aaG{t0:UB}(h:ST C w r bs (x::os) ds V)(hE:aoh T x.E x.wd)(hn:x.rows.length+rows2.length<=1000000)(hl:∀row∈rows2,row.length=x.wd)(hy:an (Fr w bs (x::os)) V (.sl rows2) (sV ad m c)):∃a2 n c2 w',n=(x.rows++rows2).length/\(Builtin.append_ #[T,T] t0 #[x.v,sV ad m c]).run prog V=.ok (sV a2 n c2) w'/\ST C w r bs (⟨x.E,x.wd,.slice a2 (x.rows++rows2).length c2,x.rows++rows2⟩::os) ds w'/\V.heap.size<=w'.heap.size:=by obtain⟨i,z,bytes,h1,h2,h3,h4,h5,h6,h7,h8⟩:=hE.ok;have hO:=h.ow 0 x rfl;obtain⟨v',w',e1,e2,e3,e4⟩:=AS (t0:=t0) h1 h2 h3 h4 h5 h6 h7 h8 hO h.sg.le hn hl (hy.mono λb hb _=>⟨⟨hb.1,hb.2.1,λj oj hj cR=>hb.2.2 oj (cm hj)⟩,hb.2.2 x ai⟩);obtain⟨a2,c2,rfl⟩:=e2.form;refine⟨a2,_,c2,w',rfl,e1,h.grown e3 e4 (e2.mono λb hb _=>⟨hb.1,hb.2.1,λo ho=>?_⟩),e3.size⟩;obtain⟨j,hj⟩:=JI ho;exact hb.2.2 (j+1) o bO ab
def Zs{K:R0}{Q:VN}{Y:Nat->Option Bool}{X:Prop}(s z:Rj)(h:ST C w r bs (x::os) ds V)(hE:aaE prog T x.E x.wd=true)(hn:x.rows.length+rows2.length<=1000000)(hl:∀row∈rows2,row.length=x.wd)(hy:an (Fr w bs (x::os)) V (.sl rows2) (sV ad m c))(hs:a.eval s=x.v)(hz:a.eval z=sV ad m c)(hK:∀a2 c2 w',ST C w r bs (⟨x.E,x.wd,.slice a2 (x.rows++rows2).length c2,x.rows++rows2⟩::os) ds w'->K (a.put o.dst (.slice a2 (x.rows++rows2).length c2)) w')(hw:Region.wanted o Y=true:=by rfl)(o7:o.op=Op.call {callee:=Callee.builtin Builtin.append,args:=#[s,z],argTypes:=#[T,T]}:=by rfl):if Region.wanted o Y=true then Oper.wp prog o a V K Q else X:=by rw[aI hw];obtain⟨a2,n,c2,w',Qy,e1,e2,_⟩:=aaG (t0:=o.type) h (aaF hE) hn hl hy;unfold Oper.wp;simp[execOp,o7,resolve,invoke,builtin,hs,hz,e1,Result.andThen];subst Qy;exact hK a2 c2 w' e2
def VF{ops:Ws}{rest:RM}{Q:VN}(s z:Rj)(h:ST C w r bs (x::os) ds V)(hE:aaE prog T x.E x.wd=true)(hn:x.rows.length+rows2.length<=1000000)(hl:∀row∈rows2,row.length=x.wd)(hy:an (Fr w bs (x::os)) V (.sl rows2) (sV ad m c))(hs:a.eval s=x.v)(hz:a.eval z=sV ad m c)(hK:∀a2 c2 w',ST C w r bs (⟨x.E,x.wd,.slice a2 (x.rows++rows2).length c2,x.rows++rows2⟩::os) ds w'->wpList prog ops Q rest (a.put o.dst (.slice a2 (x.rows++rows2).length c2)) w')(hg:o.guard=none:=by rfl)(o7:o.op=Op.call {callee:=Callee.builtin Builtin.append,args:=#[s,z],argTypes:=#[T,T]}:=by rfl):wpList prog ops Q (o::rest) a V:=by refine MX hg λK H0=>?_;obtain⟨a2,n,c2,w',Qy,e1,e2,_⟩:=aaG (t0:=o.type) h (aaF hE) hn hl hy;unfold Oper.wp;simp[execOp,o7,resolve,invoke,builtin,hs,hz,e1,Result.andThen];subst Qy;exact H0 _ _ (hK a2 c2 w' e2)
end
section
variable {ops:Ws}{rest:RM}{o:RZ}{a:Act}{w:YC}{Q:Exit -> Act -> World -> Prop}{x y:Rj}{ty:UB}{g:Nat}{t:UB}{cs c0:Zt}
def isRow(P:T1)(ty:UB)(n:Nat):Bool:=(P.underlying ty).any (λd=>match d with|.struct _|.array _ _=>true|_=>false)&&(P.info? ty).map (·.size)==some n
def qV{P:T1}{n:Nat}(h:isRow P ty n=true):∃d,P.underlying ty=some d/\(match d with|.struct _|.array _ _=>true|_=>false)=true/\(P.info? ty).map (·.size)=some n:=by simp only[isRow,dD,dU,Option.any_eq_true] at h;obtain⟨⟨d,h1,h2⟩,h3⟩:=h;exact⟨d,h1,h2,h3⟩
def T6(hg:w.heap[g]?=some (.cells cs t (0,0)))(h:wpList prog ops Q rest (a.put o.dst (.agg cs)) w)(hgd:o.guard=none:=by rfl)(ho:o.op=.load ty x:=by rfl)(hx:a.eval x=.pointer g:=by rfl)(hi:isRow prog ty cs.size=true:=by kernel_rfl):wpList prog ops Q (o::rest) a w:=by obtain⟨d,h1,h2,h3⟩:=qV hi;exact wpList_load_row hgd ty x ho g hx t cs (0,0) d hg h1 yN h3 h
def str(hg:w.heap[g]?=some (.cells c0 t (0,0)))(h:wpList prog ops Q rest (a.put o.dst undef) (w.setRow g cs))
  (hgd:o.guard=none:=by rfl) (ho:o.op=.store ty x y:=by rfl) (hx:a.eval x=.pointer g:=by rfl) (hy:a.eval y=.agg cs:=by rfl) (hi:isRow prog ty cs.size=true:=by kernel_rfl)
  (hs:c0.size=cs.size:=by rfl) (h1:cs.all (·.oneCell')=true:=by kernel_rfl):wpList prog ops Q (o::rest) a w:=by
 obtain⟨d,_,_,h3⟩:=qV hi;exact wpList_store_row hgd ty x y ho g cs hx hy t c0 hg h3 hs h1 h
def stw{K:R0}{Y:Nat->Option Bool}{X:Prop}(hg:w.heap[g]?=some (.cells c0 t (0,0)))(h:K (a.put o.dst undef) (w.setRow g cs))
  (hw:Region.wanted o Y=true:=by rfl) (ho:o.op=.store ty x y:=by rfl) (hx:a.eval x=.pointer g:=by rfl) (hy:a.eval y=.agg cs:=by rfl) (hi:isRow prog ty cs.size=true:=by kernel_rfl)
  (hs:c0.size=cs.size:=by rfl) (h1:cs.all (·.oneCell')=true:=by kernel_rfl):if Region.wanted o Y=true then Oper.wp prog o a w K Q else X:=by
 rw[aI hw];obtain⟨d,_,_,h3⟩:=qV hi;exact wp_store_row ty x y ho g cs hx hy t c0 hg h3 hs h1 h
def QW{parts:Array (Nat×Operand)}(h:wpList prog ops Q rest (a.put o.dst (.agg cs)) w)(hg:o.guard=none:=by rfl)(ho:o.op=.build ty parts:=by rfl)
  (hf:prog.built ty (parts.map fun(i,x)=>(i,a.eval x)).toList=some cs:=by kernel_rfl):wpList prog ops Q (o::rest) a w:=by
 refine wpList_build hg ty parts ho (by rw[hf];rfl) ?_;rw[hf];exact h
def ou{fn:Func}{R:VW}{a:Act}{w:YC}{q:Tmp}{ty:UB}{g:Nat}{t:UB}{cs:Zt}(hg:w.heap[g]?=some (.cells cs t (0,0)))(hR:R (.returned (.agg cs)) w)(h:fn.results=#[.cell q ty]:=by rfl)(hp:a.tmps.getD q undef=.pointer g:=by rfl)(hi:isRow prog ty cs.size=true:=by kernel_rfl)(hd:a.defers=[]:=by rfl):bodyPost prog fn R .ret a w:=by obtain⟨d,h1,h2,h3⟩:=qV hi;exact bG (results_cell_row h _ _ g t cs (0,0) d hp hg h1 yN h3) hd hR
end
def LJ{w:YC}(h:PS C w l)(h5:C.x5=some (.bool false)):Calls prog 282 #[pP C] w λe w'=>e=.returned (.bool ((dv l==1||aO "Result" l)&&jM l))/\Kept aK w w':=by
 obtain⟨B,hB⟩:∃B,B=!(dv l==1):=⟨_,rfl⟩
 obtain⟨R,hR⟩:∃R,R=aO "Result" l:=⟨_,rfl⟩
 have k1:((dv l:Int)!=1)=B:=by rw[hB,sM];simp;omega
 have L5:((dv l==1||aO "Result" l)&&jM l)=(!(B&&!R)&&jM l):=by rw[<-hR,hB];cases(dv l==1)<;>cases R<;>rfl
 rw[L5];obtain⟨n,e1,_,c1⟩:=h.c1;obtain⟨cap,c0,Vg⟩:=h.c0;have hlen:=h.len;have nz:(0:Int)<=n:=ab;have Pm:(n:Int)<=10000:=ab;obtain⟨D,hD⟩:∃D,D=decide ((C.L.length:Int)<=(n:Int)+1):=⟨_,rfl⟩
 have sT:D=l.tail.isEmpty:=by
  rw[hD,sM];simp only[oM,List.isEmpty_iff]
  cases l with
  |nil=>simp at e1|-;omega
  |cons t r=>cases r with
   |nil=>simp at e1|-;omega
   |cons t2 r=>simp at e1|-;omega
 have hwr:=lF ((n:Int)+1) ab;replace hD:=hD.symm;revert h h5 hR Vg sT;refine nx ?_;intro h h5 hR Vg sT;clear hB L5;go_enter func282,ntmps282;go_wp2_with fail;refine aY [some 4,some 5,some 6,some 7,some 8,some 9,some 10,some 11,some 12,some 13,some 14,some 15,some 16,some 17,some 18,some 19,some 20,some 21,some 22,some 23,some 24] [0,1,2,3,4,5,6,7,8,9,10,11,12,13,14,15,16,17,18,19,20] (A:=?_) (λlb u V=>(PS C V l/\Kept aK w V)/\VT [some (pP C),some (iV (dv l)),some (.bool B),some (.bool B),some (bif B then pP C else undef),some (bif B then .bool R else undef),some (bif B then .bool !R else undef),some (.bool (B&&!R)),some (.bool (B&&!R)),some (bif (B&&!R) then undef else pP C),some (bif (B&&!R) then undef else pP C),some (bif (B&&!R) then undef else .pointer (some ⟨C.p,1,none⟩)),some (bif (B&&!R) then undef else iV n),some (bif (B&&!R) then undef else iV ((n:Int)+1)),some (bif (B&&!R) then undef else pP C),some (bif (B&&!R) then undef else pP C),some (bif (B&&!R) then undef else .pointer C.p),some (bif (B&&!R) then undef else sV C.ga C.L.length cap),some (bif (B&&!R) then undef else iV C.L.length),some (bif (B&&!R) then undef else .bool D),some (.bool ((B&&!R)||D))] lb u) af af (λu=>?_) (λlb u h0=>⟨⟨h.kept (F:=aK) (Kept.refl _ _).drew (λ_ e=>e.elim),(Kept.refl aK w).drew⟩,VT.none rfl h0⟩) ?_ (λlb u V hl hI=>?_);rotate_left
 .exact bK
 .repeat' first|apply Bm.be.cons|exact Bm.be.nil
  all_goals intro lb u V K hl hn hf hI hK
  .exact fV
  .have e0:=hI.2 0 _ rfl (hn 0 af);go_simp;refine bD (gA hI.1.1 h5) λwA KA=>?_;dsimp only;exact hK _ _ _ ⟨⟨hI.1.1.kept KA (λ_ e=>e.elim),hI.1.2.trans' KA⟩,hI.2.yes 1⟩ mI
  .exact rE
  .exact Kv
  .have e3:=hI.2 3 _ rfl (hn 3 af)
   cases B<;>cases R<;>(go_simp;exact hK.out _ _ _ ⟨hI.1,hI.2.yes 4⟩ rD)
  .have e3:=hI.2 3 _ rfl (hn 3 af);have e4:=hI.2 4 _ rfl (hn 4 af)
   cases B
   .go_simp;exact hK _ _ _ ⟨hI.1,hI.2.yes 5⟩ wm
   go_simp;refine bD (Bi hI.1.1 h5 "Result" (aV aj)) λwA KA=>?_;rw[<-hR.out];dsimp only;exact hK _ _ _ ⟨⟨hI.1.1.kept KA (λ_ e=>e.elim),hI.1.2.trans' KA⟩,hI.2.yes 5⟩ wm
  .have e3:=hI.2 3 _ rfl (hn 3 af);have e5:=hI.2 5 _ rfl (hn 5 af)
   cases B<;>cases R<;>(go_simp;exact hK.out _ _ _ ⟨hI.1,hI.2.yes 6⟩ (by rw[e3,e5];try rfl))
  .have e3:=hI.2 3 _ rfl (hn 3 af);have e6:=hI.2 6 _ rfl (hn 6 af)
   cases B<;>cases R<;>(go_simp;exact hK.out _ _ _ ⟨hI.1,hI.2.yes 7⟩ (by rw[e3,e6];try rfl))
  .exact auf
  .have e8:=hI.2 8 _ rfl (hn 8 af)
   cases B<;>cases R<;>(go_simp;exact hK.out _ _ _ ⟨hI.1,hI.2.yes 9⟩ om)
  .have e8:=hI.2 8 _ rfl (hn 8 af);have e9:=hI.2 9 _ rfl (hn 9 af)
   cases B<;>cases R<;>(go_simp;exact hK.out _ _ _ ⟨hI.1,hI.2.yes 10⟩ (by rw[e8,e9];try rfl))
  .have e8:=hI.2 8 _ rfl (hn 8 af);have zv:=hI.2 10 _ rfl (hn 10 af)
   cases B<;>cases R<;>(go_simp;exact hK.out _ _ _ ⟨hI.1,hI.2.yes 11⟩ (by rw[e8,zv];try rfl))
  .have e8:=hI.2 8 _ rfl (hn 8 af);have xU:=hI.2 11 _ rfl (hn 11 af);have d:=hI.1.2.aq c1 (λe=>e)
   cases B<;>cases R<;>(go_simp;exact hK.out _ _ _ ⟨hI.1,hI.2.yes 12⟩ (by rw[e8,xU];try rfl))
  .have e8:=hI.2 8 _ rfl (hn 8 af);have Qz:=hI.2 12 _ rfl (hn 12 af)
   cases B<;>cases R<;>(go_simp;exact hK.out _ _ _ ⟨hI.1,hI.2.yes 13⟩ (by rw[e8,Qz];try rfl))
  .have e8:=hI.2 8 _ rfl (hn 8 af)
   cases B<;>cases R<;>(go_simp;exact hK.out _ _ _ ⟨hI.1,hI.2.yes 14⟩ om)
  .have e8:=hI.2 8 _ rfl (hn 8 af);have e14:=hI.2 14 _ rfl (hn 14 af)
   cases B<;>cases R<;>(go_simp;exact hK.out _ _ _ ⟨hI.1,hI.2.yes 15⟩ (by rw[e8,e14];try rfl))
  .have e8:=hI.2 8 _ rfl (hn 8 af);have e15:=hI.2 15 _ rfl (hn 15 af)
   cases B<;>cases R<;>(go_simp;exact hK.out _ _ _ ⟨hI.1,hI.2.yes 16⟩ (by rw[e8,e15];try rfl))
  .have e8:=hI.2 8 _ rfl (hn 8 af);have e16:=hI.2 16 _ rfl (hn 16 af);have d:=hI.1.2.aq c0 (λe=>e)
   cases B<;>cases R<;>(go_simp;exact hK.out _ _ _ ⟨hI.1,hI.2.yes 17⟩ (by rw[e8,e16];try rfl))
  .have e8:=hI.2 8 _ rfl (hn 8 af);have e17:=hI.2 17 _ rfl (hn 17 af)
   cases B<;>cases R<;>(go_simp;exact hK.out _ _ _ ⟨hI.1,hI.2.yes 18⟩ (by rw[e8,e17];try rfl))
  .have e8:=hI.2 8 _ rfl (hn 8 af);have QA:=hI.2 13 _ rfl (hn 13 af);have e18:=hI.2 18 _ rfl (hn 18 af)
   cases B<;>cases R<;>(go_simp;exact hK.out _ _ _ ⟨hI.1,hI.2.yes 19⟩ (by rw[e8,QA,e18];try rfl))
  .have e8:=hI.2 8 _ rfl (hn 8 af);have e19:=hI.2 19 _ rfl (hn 19 af)
   cases B<;>cases R<;>(go_simp;exact hK.out _ _ _ ⟨hI.1,hI.2.yes 20⟩ (by rw[e8,e19];try rfl))
 have e20:=hI.2 20 _ rfl (hl 20 aj);obtain⟨⟨S1,K1⟩,_⟩:=hI;revert S1 K1;refine ct ?_;intro S1 K1;have hsd:jM l=jM l:=rfl
 cases hBR:(B&&!R) with
 |true=>rw[hBR,Bool.true_or] at e20;go_wp2_with fail;go_ret;exact⟨by rw[hBR];rfl,K1⟩
 |false=>
  rw[hBR,MR] at e20;replace hBR:=ah hBR;clear k1 hwr;rcases l with _|⟨t,_|⟨t2,r⟩⟩
  .have hDt:=sT.out;simp only[List.tail_nil,List.isEmpty_nil] at hDt;exact D1
  .have hDt:=sT.out;simp only[aut,List.isEmpty_nil] at hDt;exact D1
  .have hDt:=sT.out;simp only[aut,List.isEmpty_cons] at hDt;subst hDt;go_wp2_with fail;obtain⟨n',a,b,e1',c1',bQ,bL,q1,q2,q3,q4⟩:=h.out.tok (k:=1) rfl;have Qy:n'=n:=by simp only[dC] at e1 e1';omega
   subst Qy;have lL:((n':Int)+1 < (C.L.length:Int)):=ab;have hi:((n':Int)+1).toNat=n'+1:=ab;have hwr:=lF ((n':Int)+1) ab;rw[Vg.out ab] at c0;clear c1' sT e1';refine aY [some 25,some 26,some 27,some 28,some 29,some 30,some 31,some 32,some 33,some 34,some 35,some 3,none] [0,1,2,3,4,5,6,7,8,9,10,11,12] (A:=?_) (λlb u V=>(Kept aK w V/\(lb 11=true->lb 12=false->∃g,u 11=.pointer (some ⟨g,0,none⟩)/\w.heap.size<=g/\V.heap[g]?=some (.cells #[oZ,eS,oZ,oZ] 187 (0,0)))/\(lb 12=true->∃g,u 11=.pointer (some ⟨g,0,none⟩)/\w.heap.size<=g/\V.heap[g]?=some (.cells #[t2.k,t2.t,a,iV b] 187 (0,0))))/\VT [some (pP C),some (pP C),some (.pointer C.p),some (sV (some ⟨C.g,0,none⟩) C.L.length cap),some (pP C),some (pP C),some (.pointer (some ⟨C.p,1,none⟩)),some (iV n'),some (iV ((n':Int)+1)),some (.pointer (some ⟨C.g,(n'+1)*4,none⟩)),some (.agg #[t2.k,t2.t,a,iV b]),none,none] lb u) af af (λu=>?_) (λlb u h0=>⟨⟨K1.drew,λe=>vX,λe=>HC⟩,VT.none rfl h0⟩) ?_ (λlb u V hl hI=>?_);rotate_left
   .exact bK
   .repeat' first|apply Bm.be.cons|exact Bm.be.nil
    all_goals intro lb u V K hl hn hf hI hK
    .exact fV
    .exact uQ
    .exact rE
    .have e2:=hI.2 2 _ rfl (hn 2 af);have d:=hI.1.1.aq c0 (λe=>e);exact pv
    .exact Eu
    .exact ue
    .exact ud
    .have e6:=hI.2 6 _ rfl (hn 6 af);have d:=hI.1.1.aq c1 (λe=>e);exact Eh
    .exact auf
    .have e3:=hI.2 3 _ rfl (hn 3 af);have e8:=hI.2 8 _ rfl (hn 8 af);go_simp;exact hK _ _ _ ⟨hI.1,hI.2.yes 9⟩ (by rw[e3,e8];try rfl)
    .have e9:=hI.2 9 _ rfl (hn 9 af);have d0:=hI.1.1.aq q1 (λe=>e);have d1:=hI.1.1.aq q2 (λe=>e);have d2:=hI.1.1.aq q3 (λe=>e);have d3:=hI.1.1.aq q4 (λe=>e);exact uh
    .go_simp;exact hK _ _ _ ⟨⟨hI.1.1.alloc _,λ_ _=>⟨_,rfl,hI.1.1.size,by rw[heap_alloc,aI rfl]⟩,λe=>(by rw[jJ aj,hf 12 af] at e;cases e)⟩,hI.2.no 11⟩ rfl
    .have zv:=hI.2 10 _ rfl (hn 10 af);obtain⟨g,xU,hg,hb⟩:=hI.1.2.1 (hn 11 af) hl;refine stw (x:=.tmp 3) (y:=.tmp 35) (hx:=xU) (hy:=zv) hb ?_;exact hK _ _ _ ⟨⟨hI.1.1.trans (fH V g _) lJ,λ_ e=>bM,λ_=>⟨g,xU,hg,lz _ _ _ _ _ _ hb⟩⟩,hI.2.no 12⟩ rfl
   obtain⟨⟨K2,-,hI3⟩,-⟩:=hI;obtain⟨g,xU,hg,hb⟩:=hI3 (hl 12 aj);obtain⟨d0,d1,-⟩:=cc (W:=V) (b:=g) hb;have q5:((bs t2.t).toList==[58,61])=(t2.t==tx ":="):=by have hh:=cH bL (aV (s:= ":=") aj);rw[dW (bs ":=")] at hh;exact hh
   have k5:((t2.k:Int)==5)=(t2.k==5):=br;obtain⟨B1,PJ⟩:∃B1,(t2.k==5)=B1:=⟨_,rfl⟩
   obtain⟨B2,Jd⟩:∃B2,(t2.t==tx ":=")=B2:=⟨_,rfl⟩
   have yZ:(!(B&&!R)&&jM (t::t2::r))=(B1&&B2):=by rw[hBR.out,<-PJ,<-Jd];rfl
   rw[PJ] at k5;rw[Jd] at q5;revert K2 yZ;refine ct ?_;intro K2 yZ;clear hb PJ Jd hBR
   cases B1<;>cases B2
   all_goals
    go_wp2_with fail;go_ret;exact⟨by rw[yZ.out];rfl,K2⟩
def ST.L4{w:YC}{r:Zi}{bx:List (Nat×Obj)}{os:List Own}{ds:List (T×Value)}{k:Int}{nm:Yz}{n:Int}{es tags lB body tp:Zg}{ea ta ia ba la:YS}{em ec tm tc im ic bm bc lm lc:Nat}(h:ST C w r bx os ds V)
  (h1:an w V (.sl es) (sV ea em ec)) (h2:an w V (.sl tags) (sV ta tm tc)) (h3:an w V (.sl lB) (sV ia im ic)) (h4:an w V (.sl body) (sV ba bm bc)) (h5:an w V (.sl tp) (sV la lm lc)):
  Bv C [k,nm,n,es,tags,lB,body,tp] r w (.returned (.agg #[k,nm,n,sV ea em ec,sV ta tm tc,sV ia im ic,sV ba bm bc,sV la lm lc])) V:=
 ⟨⟨_,rfl,k,nm,n,es,tags,lB,body,tp,_,_,_,_,_,_,_,_,_,_,_,_,_,_,_,rfl,rfl,h1,h2,h3,h4,h5⟩,h.ps,h.sg.kp⟩
def ab9{w:YC}{t:aF}{r:Zi}(h:PS C w (t::r))(h5:C.x5=some (.bool false))(h4:t.k=4)(h99:¬num t.t > 99):Calls prog 285 #[pP C] w (Bv C (st 9 [] (num t.t) [] [] [] [] []) r w):=by
 have eF:=h.shp;have dQ:bW t.t:=mP h;have yZ:=ah (λw=>QY t.t dQ (by rw[eF,h4]) w);have S0:=(ST.start h).box (cO #[oZ,eS,oZ,nS,nS,nS,nS,nS] 239);have e4:(dv (t::r):Int)=4:=by show(t.k:Int)=4;omega
 have hq:¬99 < num t.t:=ab;revert h5 S0;refine ct ?_;intro h5 S0;go_enter func285,ntmps285;go_wp2_with fail;refine bD (gA S0.ps h5) λw1 K=>?_;rw[e4];have S1:=S0.zd K;obtain⟨cap,c0⟩:=S1.ps.c0t;obtain⟨n,a,b,e1,c1,bQ,bL,q1,q2,q3,q4⟩:=S1.ps.tok (k:=0) rfl;have hlen:=S1.ps.len;simp only[fS] at bQ q1 q2 q3 q4;have lL:((n:Int) < (C.L.length:Int)):=ab;have nz:(0:Int)<=(n:Int):=ab;replace S1:=ah S1;go_wp2_with fail;refine aY [some 10,some 11,some 12,some 13,some 14,some 15,some 16,some 17,some 18,some 19,some 20,some 21,some 3,none] [0,1,2,3,4,5,6,7,8,9,10,11,12,13] (A:=?_) (λlb u V=>(Kept aK (w1) V/\(lb 12=true->lb 13=false->∃g,u 12=.pointer (some ⟨g,0,none⟩)/\(w1).heap.size<=g/\V.heap[g]?=some (.cells #[oZ,oZ] 242 (0,0)))/\(lb 13=true->∃g,u 12=.pointer (some ⟨g,0,none⟩)/\(w1).heap.size<=g/\V.heap[g]?=some (.cells #[(num t.t),oZ] 242 (0,0))))/\VT [some (pP C),some (pP C),some (.pointer C.p),some (sV (some ⟨C.g,0,none⟩) C.L.length cap),some (pP C),some (pP C),some (.pointer (some ⟨C.p,1,none⟩)),some (iV n),some (.pointer (some ⟨C.g,n*4,none⟩)),some (.pointer (some ⟨C.g,n*4+1,none⟩)),some (.string (bs t.t)),some (.agg #[(num t.t),oZ]),none,none] lb u) af af (λu=>?_) (λlb u h0=>⟨⟨(Kept.refl aK (w1)).drew,λe=>HC,λe=>(by rw[h0 13 aj] at e;cases e)⟩,VT.none rfl h0⟩) ?_ (λlb u V hl hI=>?_);rotate_left
 .exact bK
 .repeat' first|apply Bm.be.cons|exact Bm.be.nil
  all_goals intro lb u V K hl hn hf hI hK
  .exact fV
  .exact uQ
  .exact rE
  .have e2:=hI.2 2 _ rfl (hn 2 af);have d0:=hI.1.1.aq c0 (λe=>e);exact pv
  .exact Eu
  .exact ue
  .exact ud
  .have e6:=hI.2 6 _ rfl (hn 6 af);have d0:=hI.1.1.aq c1 (λe=>e);exact Eh
  .have e3:=hI.2 3 _ rfl (hn 3 af);have e7:=hI.2 7 _ rfl (hn 7 af);go_simp;exact hK _ _ _ ⟨hI.1,hI.2.yes 8⟩ tT
  .have e8:=hI.2 8 _ rfl (hn 8 af);go_simp;exact hK _ _ _ ⟨hI.1,hI.2.yes 9⟩ om
  .have e9:=hI.2 9 _ rfl (hn 9 af);have d0:=hI.1.1.aq q2 (λe=>e);exact uh
  .have zv:=hI.2 10 _ rfl (hn 10 af);go_simp;refine bD (yZ _) λwA KA=>?_;dsimp only;exact hK _ _ _ ⟨⟨hI.1.1.trans' KA,λe1 e2=>(by obtain⟨g,e,hg,hb⟩:=hI.1.2.1 e1 e2;exact⟨g,e,hg,aJ hb KA⟩),λe1=>(by obtain⟨g,e,hg,hb⟩:=hI.1.2.2 e1;exact⟨g,e,hg,aJ hb KA⟩)⟩,hI.2.yes 11⟩ uJ
  .go_simp;exact hK _ _ _ ⟨⟨hI.1.1.alloc _,λ_ _=>⟨_,rfl,hI.1.1.size,by rw[heap_alloc,aI rfl]⟩,λe=>(by rw[jJ aj,hf 13 af] at e;cases e)⟩,hI.2.no 12⟩ rfl
  .have xU:=hI.2 11 _ rfl (hn 11 af);obtain⟨g,ea,hg,hb⟩:=hI.1.2.1 (hn 12 af) hl;refine stw (x:=.tmp 3) (y:=.tmp 21) (hx:=ea) (hy:=xU) hb ?_;exact hK _ _ _ ⟨⟨hI.1.1.trans (fH V g _) lJ,λ_ e=>bM,λ_=>⟨g,ea,hg,lz _ _ _ _ _ _ hb⟩⟩,hI.2.no 13⟩ rfl
 obtain⟨⟨KB,-,hI3⟩,-⟩:=hI;obtain⟨g,eg,hg,hb⟩:=hI3 (hl 13 aj);have S2:=(S1.ajY KB hg hb)
 obtain⟨n2,e2,_,p1⟩:=S2.ps.c1;have Pt:(n2:Int)<=10000:=by have:=S2.ps.len;omega
 have hn3:(0:Int)<=n2:=ab;have hwr:=lF ((n2:Int)+1) ab;have f1:=S2.ps.fr 1;have d0:=S2.cell 0 0;dsimp at d0;have S3:=S2.TT e2 rfl;have d1:=S3.cell 0 0;dsimp at d1;have gJ:=S3.heap 1;revert S2 S3;refine ct ?_;intro S2 S3;go_wp2_with (first|refine QW ?_|refine str gJ ?_);have S4:=S3.row 1 #[iV 9,eS,(num t.t),nS,nS,nS,nS,nS];refine ou (S4.heap 1) ?_;exact S4.L4 (nm:=[]) .nil .nil .nil .nil .nil
end Go.Proofs.Gm
