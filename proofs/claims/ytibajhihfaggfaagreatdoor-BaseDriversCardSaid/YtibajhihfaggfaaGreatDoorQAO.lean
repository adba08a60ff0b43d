/- BaseDrivers. No condition. -/
import Derived.Test.YtibajhihfaggfaaGreatDoorQAM
import Derived.Test.YtibajhihfaggfaaGreatDoorQAN
set_option linter.all false
set_option maxRecDepth 100000
set_option maxHeartbeats 0
namespace Go.Proofs.Gm
open Go.Proofs.Tryz Go.RowKit Go.Maps Go.Proofs.Bm
variable {ws ws':Y9}{p k:Nat}{V W:YC}{v v0:YE}{α:Type}{l args:Zg}{nm:Yz}{s:TG}{x:Row}
structure WQ (p:Nat) (v:YE) (V:YC) (ws:Y9):Prop where
 hp:V.heap[p]?=some (.cells #[v] 96 (0,0))
 ow:OwnR 0 (λ_=>False) V 9 1 v (strs ws)
 ne:v.ownBlock≠some p
def Dt(p:Nat)(v:YE):Nat->Prop:=λb=>b≠p/\v.ownBlock≠some b
structure WF (p:Nat) (v0:YE) (w:YC) (ws:Y9) (bs:List (Nat×Obj)) (V:YC):Prop where
 q:∃v,WQ p v V ws/\(v.ownBlock=v0.ownBlock∨∀b,v.ownBlock=some b->w.heap.size<=b)/\∀q∈bs,v.ownBlock≠some q.1
 bx:∀q∈bs,w.heap.size<=q.1/\V.heap[q.1]?=some q.2
 pw:p < w.heap.size
 ow:∀b,v0.ownBlock=some b->b < w.heap.size
 kp:Kept (λb=>b=p∨v0.ownBlock=some b) w V
abbrev pW(p:Nat):Value:=.pointer p
namespace WQ
variable {p:Nat}{v:YE}{V V':YC}{ws:Y9}
def lt(h:WQ p v V ws):p < V.heap.size:=(aQ.1 h.hp).1
def start(h:WQ p v V ws):WF p v V ws [] V:=⟨⟨v,h,.inl rfl,by simp⟩,by simp,h.lt,λb e=>(h.ow.lt b e).2,Kept.refl _ _⟩
def kept(h:WQ p v V ws){F:Wq}(hk:Kept F V V')(hF:∀b,F b->b < V.heap.size->Dt p v b):WQ p v V' ws:=
 ⟨(hk.block p h.lt λe=>(hF p e h.lt).1 rfl).trans h.hp,h.ow.kept hk (λ_ e=>e.elim) (λb e hf=>(hF b hf (h.ow.lt b e).2).2 e),h.ne⟩
end WQ
namespace WF
variable {p:Nat}{v0:YE}{w V V':YC}{ws ws':Y9}{bs:List (Nat×Obj)}{b i:Nat}{o:Obj}{t:T}{x:YE}
def lt(h:WF p v0 w ws bs V){q:Nat×Obj}(hq:q∈bs):q.1 < V.heap.size:=(aQ.1 (h.bx q hq).2).1
def heap(h:WF p v0 w ws bs V)(i:Nat)(hi:bs[i]?=some (b,o):=by rfl):V.heap[b]?=some o:=(h.bx _ (cm hi)).2
def cell(h:WF p v0 w ws bs V)(i j:Nat){cs:Zt}{T:UB}(hi:bs[i]?=some (b,.cells cs T (0,0)):=by rfl):V.cell? ⟨b,j,none⟩=cs[j]?:=aC (h.heap i hi) j
def at'(h:WF p v0 w ws bs V){v:YE}(hv:v.ownBlock=v0.ownBlock∨∀b,v.ownBlock=some b->w.heap.size<=b)(hd:an (Dt p v0) w t x):an (Dt p v) V t x:=
 (hd.mono (S':=λb=>Dt p v0 b/\b < w.heap.size) λ_ hb hl=>⟨hb,hl⟩).kept h.kp (λb hb _ e=>by
  rcases e with e|e
  .exact hb.1.1 e
  .exact hb.1.2 e) |>.mono λb hb _=>⟨hb.1.1,λe=>by
   rcases hv with hv|hv
   .exact hb.1.2 (hv▸e)
   .have:=hv b e;omega⟩
def bA(h:WF p v0 w ws bs V){g j:Nat}(hg:Dt p v0 g)(hc:w.cell? ⟨g,j,none⟩=some x):V.cell? ⟨g,j,none⟩=some x:=
 h.kp.aq hc (λe=>by rcases e with e|e;exact hg.1 e;exact hg.2 e)
def box(h:WF p v0 w ws bs V)(o:Obj):WF p v0 w ws ((V.heap.size,o)::bs) (V.alloc o):=by
 obtain⟨v,hq,hv,hb⟩:=h.q;have hk:=(Kept.refl aK V).alloc o;refine⟨⟨v,hq.kept hk λ_ e=>e.elim,hv,λq xG=>?_⟩,λq xG=>?_,h.pw,h.ow,h.kp.trans hk λ_ _ e=>e.elim⟩
 .rcases cZ.1 xG with rfl|xG
  .exact λe=>by have:=(hq.ow.lt _ e).2;omega
  .exact hb q xG
 .rcases cZ.1 xG with rfl|xG
  .exact⟨h.kp.size,by rw[heap_alloc,aI rfl]⟩
  .exact⟨(h.bx q xG).1,(jm _ _ _ (h.lt xG)).trans (h.bx q xG).2⟩
def no(h:WF p v0 w ws bs V)(hk:Kept aK V V'):WF p v0 w ws bs V':=by obtain⟨v,hq,hv,hb⟩:=h.q;exact⟨⟨v,hq.kept hk λ_ e=>e.elim,hv,hb⟩,λq xG=>⟨(h.bx q xG).1,aJ (h.bx q xG).2 hk⟩,h.pw,h.ow,h.kp.trans hk λ_ _ e=>e.elim⟩
def fin(h:WF p v0 w ws bs V):WF p v0 w ws [] V:=by obtain⟨v,hq,hv,hb⟩:=h.q;exact⟨⟨v,hq,hv,by simp⟩,by simp,h.pw,h.ow,h.kp⟩
def after(h:WF p v0 w ws bs V){v:YE}(hv:v.ownBlock=v0.ownBlock∨∀b,v.ownBlock=some b->w.heap.size<=b)(hb:∀q∈bs,v.ownBlock≠some q.1)(k:WF p v V ws' [] V'):WF p v0 w ws' bs V':=by
 obtain⟨v',hq,IN,-⟩:=k.q;have dM:=h.kp.size;refine⟨⟨v',hq,?_,λq xG=>?_⟩,λq xG=>⟨(h.bx q xG).1,(k.kp.block _ (h.lt xG) λe=>?_).trans (h.bx q xG).2⟩,h.pw,h.ow,h.kp.trans k.kp λi hi e=>?_⟩
 .rcases IN with e|e
  .rcases hv with hv|hv
   .exact .inl (e.trans hv)
   .exact .inr λb avH=>hv b (e▸avH)
  .exact .inr λb avH=>cn dM (e b avH)
 .rcases IN with e|e
  .rw[e];exact hb q xG
  .exact λe'=>by have:=e _ e';have:=h.lt xG;omega
 .rcases e with e|e
  .have:=(h.bx q xG).1;have:=h.pw;omega
  .exact hb q xG e
 .rcases e with e|e
  .exact .inl e
  .rcases hv with hv|hv
   .exact .inr (hv▸e)
   .have:=hv i e;omega
def step{fn:RB}{args:Zt}{r:TP}(h:WF p v0 w ws bs V)(c:∀v,WQ p v V ws->(∀{t x},an (Dt p v0) w t x->an (Dt p v) V t x)->Calls prog fn args V λe w'=>e=r/\WF p v V ws' [] w'):Calls prog fn args V λe w'=>e=r/\WF p v0 w ws' bs w':=by obtain⟨v,hq,hv,hb⟩:=h.q;exact(c v hq λhd=>h.at' hv hd).mono λe w' ⟨h1,h2⟩=>⟨h1,h.after hv hb h2⟩
end WF
def Yw{S:Wq}{w:YC}(h:OwnR 0 S w 9 1 v (strs ws)):OwnR 0 (λ_=>False) w 9 1 v (strs ws):=by
 obtain⟨css,h1,h2⟩:=h;refine⟨css,?_,h2⟩;clear h2;generalize hr:strs ws=rows at h1;induction h1 generalizing ws with
 |nil=>exact .nil
 |@cons a b l m hab _ ih=>
  cases ws with
  |nil=>cases hr
  |cons s ws=>
   simp only[strs,lp,IZ] at hr;obtain⟨rfl,hr⟩:=hr;refine .cons ⟨hab.1,?_⟩ (ih hr);obtain⟨c0,Ap,rfl,v0,h0⟩:=hab.2.aG
   cases v0.bq;have:=h0.jO;subst this;exact .cons (.str _) .nil
abbrev WP(p:Nat)(v:YE)(V:YC)(ws:Y9)(e:TP)(w':YC):Prop:=e=.returned (.tuple #[])/\WF p v V ws [] w'
def VH{v':YE}(h:WQ p v V ws)(hO:OwnR 0 (λ_=>False) W 9 1 v' (strs ws'))(hk:Kept (λj=>v.ownBlock=some j) V W)(hv:v'.ownBlock=v.ownBlock∨∀b,v'.ownBlock=some b->V.heap.size<=b):W.heap[p]?=some (.cells #[v] 96 (0,0))/\WF p v V ws' [] (W.setCell ⟨p,0,none⟩ v'):=by
 have hb:W.heap[p]?=some (.cells #[v] 96 (0,0)):=(hk.block p h.lt h.ne).trans h.hp;have cR:v'.ownBlock≠some p:=λe=>by
  rcases hv with hv|hv
  .exact h.ne (hv▸e)
  .have:=hv p e;have:=h.lt;omega
 have ks:=au (W:=W) p 0 v';refine⟨hb,⟨v',⟨heap_setCell_same W p 0 v' hb,hO.kept ks (λ_ e=>e.elim) (λb e e'=>cR (e'▸e)),cR⟩,hv,by simp⟩,by simp,h.lt,λb e=>(h.ow.lt b e).2,?_⟩;exact(hk.mono λb e=>.inr e).trans ks λb _ e=>.inl e
def NX(h:WQ p v V ws)(s:Yz)(hN:ws.length+1<=1000000):Calls prog 74 #[pW p,.string (bs s)] V (WP p v V (ws++[s])):=by obtain⟨i,hi,hz,dM,dY⟩:=dN QO;obtain⟨a,c,rfl⟩:=h.ow.form;have hb:=ah h.hp;have d:=bc hb 0;have hK:=(Kept.refl aK V).alloc (cO #[s] 9);have h':=h.kept hK λ_ e=>e.elim;have hB:=dE (V.alloc (cO #[s] 9)).heap.size;have eG:∀(j:Nat) (u:YE),([s]:YT)[j]?=some u->(V.alloc (cO #[s] 9)).cell? ((⟨V,0,none⟩:Addr).add j)=some u:=eH;revert hN hi hz dM dY h hK h' hB eG;refine zQ ?_;intro hN hi hz dM dY h hK h' hB eG;go_enter func74,ntmps74;refine kN ?_;refine bu (P:=prog) underlying22 hi hz dM dY rfl ab ab rfl (.tmp 8) (.tmp 10) rfl rfl ⟨V,0,none⟩ 1 rfl [s] [s] h'.ow hB Lq rfl eG (.cons (.str _) .nil) ?_;intro v' W hO hk hv;have e1:strs ws++[[.str s]]=strs (ws++[s]):=bR;rw[e1] at hO;obtain⟨a2,c2,jo⟩:=hO.form;generalize (strs (ws++[s])).length=n2 at jo;subst jo;obtain⟨jy,hW⟩:=VH h.out hO (((Kept.refl (λj=>(Value.slice a (strs ws).length c).ownBlock=some j) V).alloc _).trans' hk) (hv.imp id λe b hb=>by have:=e b hb;simp at this;omega);exact DT
def aiw(h:WQ p v V ws)(l:Y9){x:YE}(hx:an (Dt p v) V (.sl (strs l)) x)(hN:ws.length+l.length<=1000000):Calls prog 75 #[pW p,x] V (WP p v V (ws++l)):=by
 obtain⟨i,hi,hz,dM,dY⟩:=dN QO;obtain⟨a,c,rfl⟩:=h.ow.form;obtain⟨ax,cx,rfl,-⟩:=hx.aU;have hb:=ah h.hp;have d:=bc hb 0;have hB:=dE V.heap.size;have asJ:=hx.mono (S':=λb=>(λ_=>True) b/\(Value.slice a (strs ws).length c).ownBlock≠some b) λb hb _=>⟨bw,hb.2⟩
 have iH:OwnR 0 (λ_=>True) V 9 1 (.slice a (strs ws).length c) (strs ws):=h.ow.mono λ_ e=>e.elim;revert hN hi hz dM dY h hB asJ iH;refine hd9 ?_;intro hN hi hz dM dY h hB asJ iH;go_enter func75,ntmps75;refine kN ?_;refine kZ (P:=prog) underlying22 hi hz dM dY rfl ab ab rfl (.tmp 8) (.tmp 9) rfl rfl (rows2:=strs l) rfl iH hB Lq (by intro row hr;obtain⟨s,_,rfl⟩:=dO.1 hr;rfl) asJ ?_;intro v' W U8 hk hv;have e1:strs ws++strs l=strs (ws++l):=bR;rw[e1] at U8;obtain⟨a2,c2,jo⟩:=U8.form;generalize (strs (ws++l)).length=n2 at jo;subst jo;have hO:=Yw U8;obtain⟨jy,hW⟩:=VH h.out hO (((Kept.refl (λj=>(Value.slice a (strs ws).length c).ownBlock=some j) V)).trans' hk) (hv.imp id λe b hb=>by have:=e b hb;omega);exact DT
def WF.cast{w:YC}{bs:List (Nat×Obj)}(h:WF p v0 w ws bs V)(e:ws=ws'):WF p v0 w ws' bs V:=e▸h
def cN(h:WQ p v V ws)(s:TC){b:YR}(hN:ws.length+1<=1000000)(hb:b=bs (tx s):=by rfl):Calls prog 74 #[pW p,.string b] V (WP p v V (ws++[tx s])):=by subst hb;exact NX h (tx s) hN
def LM(y:Y9):∀(xs:List (List (List Nat))),du (xs++[y])=du xs++((if xs.isEmpty then[] else[tx ","])++y)
 |[]=>rfl
 |[x]=>by simp[du]
 |x::z::xs=>by
  have:=LM y (z::xs);simp only[qF,du] at this|-;rw[this];simp
def ze{g:α->List (List Nat)}{l:List α}{x:α}(hx:l[k]?=some x):du ((l.take (k+1)).map g)=du ((l.take k).map g)++((if k=0 then[] else[tx ","])++g x):=by
 have hk:=(dk.1 hx).1;rw[wZ,hx,Qq,MM,lp,xK,LM];congr 2
 by_cases h:k=0
 .subst h;simp
 .rw[aE h];have hl:0 < ((l.take k).map g).length:=by rw[Af,sK];omega
  cases hh:(l.take k).map g with
  |nil=>rw[hh] at hl;simp at hl
  |cons y ys=>rfl
def OO{g:α->List (List Nat)}{l:List α}:∀{k:Nat},k<=l.length->(du ((l.take k).map g)).length<=(du (l.map g)).length:=by
 intro k hk;obtain⟨n,hn⟩:∃n,l.length=k+n:=⟨l.length - k,by omega⟩
 induction n generalizing k with
 |zero=>rw[oh ab];exact aM _
 |succ n ih=>
  obtain⟨x,hx⟩:∃x,l[k]?=some x:=⟨_,ck ab⟩
  have h1:=ze (g:=g) hx;exact D2
def Q3{g:α->List (List Nat)}{l:List α}{x:α}(hx:l[k]?=some x):(l.take (k+1)).flatMap g=(l.take k).flatMap g++g x:=by rw[wZ,hx];simp
def VI{g:α->List (List Nat)}{l:List α}:((l.take k).flatMap g).length<=(l.flatMap g).length:=by
 conv=>rhs;rw[<-Rq k l]
 rw[Qt,j0];exact Nat.le_add_right _ _
def aaH(h:WQ p v V ws)(l:Y9){x:YE}(hx:an (Dt p v) V (.sl (strs l)) x)(hN:ws.length+(du (l.map λs=>[s])).length<=1000000):Calls prog 78 #[pW p,x] V (WP p v V (ws++du (l.map λs=>[s]))):=by
 obtain⟨a,cap,rfl,gF⟩:=hx.aU;have eG:(strs l).length=l.length:=bR;rw[eG] at hx gF|-;have lC:l.length<=9223372036854775807:=gF;revert h hN hx;refine jk ?_;intro h hN hx;go_enter func78,ntmps78;go_wp2_with fail;go_loopg [4] l.length (λgg s4 wr=>∃k:Nat,s4=iV k/\k+gg=l.length/\WF p v V (ws++du ((l.take k).map λs=>[s])) [] wr)
 case atStart=>exact⟨0,rfl,by omega,(h.start).cast (by simp[du])⟩
 case round=>
  obtain⟨j,rfl,zC,H⟩:=hrel;by_cases hj:j < l.length
  .obtain⟨s,hs⟩:∃s,l[j]?=some s:=⟨_,ck hj⟩
   obtain⟨g,off,rfl,hg,cs,hR,fY⟩:=hx.out.elem (k:=j) (row:=[.str s]) wC;obtain⟨c0,Ap,rfl,v0,-⟩:=hR.aG
   cases v0.bq;have q0:V.cell? ⟨g,off+j,none⟩=(some (.string (bs s)):Option Value):=kg;refine kM ?_;intro jS sQ;have hT:=ze (g:=λs:List Nat=>[s]) hs;have Lg:=OO (g:=λs:List Nat=>[s]) (l:=l) (k:=j+1) ab;rw[hT] at Lg;revert hs hg hT Lg;refine jU ?_;intro hs hg hT Lg;by_cases Px:j=0
   .have hj3:(j:Int)<=0:=by omega
    have hj4:¬(0:Int) < (j:Int):=ab;have q1:=H.bA hg q0;rw[Px,fS] at q1;go_wp2_with fail;refine bD (H.step λv hq _=>NX hq s (by have h1:=hN.out;have h2:=Lg.out;rw[aI Px] at h2;simp at h1 h2|-;omega)) λw2 H2=>?_;replace H2:=ah H2;go_wp2_with fail;go_roundg (gk - 1)
    case measure=>omega
    case rel=>exact⟨j+1,by rw[Px];rfl,by omega,H2.cast (by rw[hT.out,aI Px];simp)⟩
   .have hj3:¬(j:Int)<=0:=by omega
    have hj4:(0:Int) < (j:Int):=ab;go_wp2_with fail;refine bD (H.step λv hq _=>cN hq "," He) λw2 H2=>?_;have q1:=H2.bA hg q0;go_wp2_with fail;refine bD (H2.step λv hq _=>NX hq s He) λw3 H3=>?_;replace H3:=ah H3;go_wp2_with fail;go_roundg (gk - 1)
    case measure=>omega
    case rel=>exact⟨j+1,rfl,by omega,H3.cast (by rw[hT.out,aE Px];simp)⟩
  exact po
def alG(h:WQ p v V ws)(s:TC){b:YR}(l:Y9){x:YE}(hx:an (Dt p v) V (.sl (strs l)) x)(hN:ws.length+(du (l.map λs=>[s])).length+1<=1000000)(hb:b=bs (tx s):=by rfl):
  Calls prog 77 #[pW p,.string b,x] V (WP p v V (ws++ib s (strs l))):=by
 obtain⟨a,cap,rfl,gF⟩:=hx.aU;have eG:(strs l).length=l.length:=bR;have hso:strsOf (strs l)=l:=mW;rw[eG] at hx gF|-;have hw:ib s (strs l)=if l.isEmpty then[] else tx s::du (l.map λs=>[s]):=by unfold ib;rw[hso];cases l<;>rfl
 rw[hw];revert h hN hb hx;refine jU ?_;intro h hN hb hx
 cases l with
 |nil=>have aqt:=ah h.out.start;go_enter func77,ntmps77;go_wp2_with fail;go_end0;exact⟨rfl,aqt.cast ai⟩
 |cons s0 l=>have h1:(0:Int) < (((s0::l).length:Nat):Int):=wg;have h2:¬(((s0::l).length:Nat):Int)<=0:=ab;have jq:=ah h.out.start;generalize hLL:(s0::l).length=LL at h1 h2 hx gF|-;replace hLL:=ah hLL;go_enter func77,ntmps77;go_wp2_with fail;refine bD (jq.step λv hq up=>cN hq s (by have:=hN.out;omega) hb) λw2 H2=>?_;go_wp2_with fail;refine bD (H2.step λv hq up=>aaH hq (s0::l) (up hx) (by have:=hN.out;rw[dC] at hLL;simp at this|-;omega)) λw3 H3=>?_;replace H3:=ah H3;go_wp2;go_end0;exact⟨rfl,H3.cast ai⟩
def Iw(f:Nat)(r:Row):Bool:=(By f r).isSome
def Yx{f:Nat}{k:Int}{v:TG}(h:Iw (f+1) [k,nm,args,v,s]=true):∀r∈args,Iw f r=true:=by obtain⟨d,hd⟩:=Rr.1 h;unfold By at hd;obtain⟨n,hn,_⟩:=aw.1 hd;intro r hr;obtain⟨d,hd⟩:=zI hn r hr;show(By f r).isSome=true;rw[hd];rfl
def WTy(f:Nat):Prop:=∀(p:Nat) (v:YE) (V:YC) (ws:Y9) (k:Int) (nm:Yz) (args:Zg) (vd sp:TG) (x:YE),WQ p v V ws->Iw f [k,nm,args,vd,sp]=true->an (Dt p v) V (.sl args) x->ws.length+(ka f [k,nm,args,vd,sp]).length<=1000000->Calls prog 120 #[pW p,.agg #[k,nm,x,vd,sp]] V (WP p v V (ws++ka f [k,nm,args,vd,sp]))
def wBr(s e:TC)(g:Row->List (List Nat))(l:Zg):List (List Nat):=if l.isEmpty then[] else tx s::du (l.map g)++[tx e]
def av6{s e:TC}{g:Row->List (List Nat)}:wBr s e g (x::l)=tx s::du ((x::l).map g)++[tx e]:=rfl
def mq(s:TC)(g:Row->List (List Nat))(l:Zg)(k:Nat):List (List Nat):=if k=0 then[] else tx s::du ((l.take k).map g)
def Ix{s e:TC}{g:Row->List (List Nat)}(h:l≠[]):wBr s e g l=mq s g l l.length++[tx e]:=by
 cases l with
 |nil=>exact absurd rfl h
 |cons x l=>simp[wBr,mq]
def OP{s:TC}{g:Row->List (List Nat)}(hx:l[k]?=some x):mq s g l (k+1)=mq s g l k++((if k=0 then[tx s] else[tx ","])++g x):=by
 unfold mq;rw[aE ab,ze hx];by_cases h:k=0
 .subst h;simp[du]
 .simp[h]
def VJ{s:TC}{g:Row->List (List Nat)}(hk:k<=l.length):(mq s g l k).length<=(mq s g l l.length).length:=by
 unfold mq;split
 .simp
 .rename_i h;have:=OO (g:=g) hk;rw[aE ab,qB,dC,dC];omega
def amS{f:Nat}(ih:WTy f){p:Nat}{v:YE}{V:YC}{ws:Y9}(h:WQ p v V ws)(l:Zg){x:YE}(eF:∀r∈l,Iw f r=true)(hx:an (Dt p v) V (.sl l) x)(hN:ws.length+(wBr "[" "]" (ka f) l).length<=1000000):Calls prog 118 #[pW p,x] V (WP p v V (ws++wBr "[" "]" (ka f) l)):=by
 obtain⟨a,cap,rfl,gF⟩:=hx.aU;have lC:l.length<=9223372036854775807:=gF;revert h eF hN hx;refine jU ?_;intro h eF hN hx;go_enter func118,ntmps118;go_wp2_with fail;go_loopg [4] l.length (λgg s4 wr=>∃k:Nat,s4=iV k/\k+gg=l.length/\WF p v V (ws++mq "[" (ka f) l k) [] wr)
 case atStart=>exact⟨0,rfl,by omega,(h.start).cast (by simp[mq])⟩
 case round=>
  obtain⟨j,rfl,zC,H⟩:=hrel;by_cases hj:j < l.length
  .obtain⟨row,aL⟩:∃s,l[j]?=some s:=⟨_,ck hj⟩
   have nw:=eF row (cm aL);obtain⟨d,hd⟩:=Rr.1 nw;obtain⟨k,nm,args,vd,sp,rfl⟩:=lf hd;obtain⟨g,off,rfl,hg,cs,hR,fY⟩:=hx.out.elem aL;obtain⟨c0,Ap,rfl,v0,hR⟩:=hR.aG;obtain⟨c1,U6,rfl,v1,hR⟩:=hR.aG;obtain⟨c2,T3,rfl,v2,hR⟩:=hR.aG;obtain⟨c3,Sx,rfl,v3,hR⟩:=hR.aG;obtain⟨c4,cs4,rfl,v4,hR⟩:=hR.aG;have:=hR.jO;subst this
   cases v0.fu
   cases v1.bq
   cases v3.iA
   cases v4.iA;obtain⟨q0,q1,q2,q3,q4,-⟩:=hc (o:=off+j*5) λk _ e=>fY k _ e;refine kM ?_;intro jS sQ;have hT:=OP (s:= "[") (g:=ka f) aL;have hN':=hN.out;have cR:l≠[]:=by rintro rfl;simp at hj
   have hbl:=gq List.length (Ix (s:= "[") (e:= "]") (g:=ka f) cR);have hol:=VJ (s:= "[") (g:=ka f) (l:=l) (k:=j+1) ab;rw[j0,abi] at hbl;have Lg:ws.length+(mq "[" (ka f) l (j+1)).length+1<=1000000:=ab;rw[hT] at Lg;revert nw v2 hT Lg;refine jU ?_;intro nw v2 hT Lg;have e0:wr.cell? ⟨g,off+j*5,none⟩=_:=H.bA hg q0;replace hg:=ah hg;by_cases Px:j=0
   .have hj3:(j:Int)=0:=by omega
    rw[aI Px] at hT Lg;go_wp2_with fail;refine bD (H.step λv hq _=>cN hq "[" gQ) λw2 H2=>?_;have p0:=H2.bA hg q0;have p1:=H2.bA hg q1;have p2:=H2.bA hg q2;have p3:=H2.bA hg q3;have p4:=H2.bA hg q4;rw[Px] at p0 p1 p2 p3 p4;simp only[xL,fS] at p0 p1 p2 p3 p4;go_wp2_with fail;refine bD (H2.step λv hq up=>ih p v _ _ k nm args vd sp c2 hq nw (up v2) gQ) λw3 H3=>?_;replace H3:=ah H3;go_wp2_with fail;go_roundg (gk - 1)
    case measure=>omega
    case rel=>exact⟨j+1,by rw[Px];rfl,by omega,H3.cast (by rw[hT.out];simp)⟩
   .have hj3:¬(j:Int)=0:=by omega
    rw[aE Px] at hT Lg;go_wp2_with fail;refine bD (H.step λv hq _=>cN hq "," gQ) λw2 H2=>?_;have p0:=H2.bA hg q0;have p1:=H2.bA hg q1;have p2:=H2.bA hg q2;have p3:=H2.bA hg q3;have p4:=H2.bA hg q4;go_wp2_with fail;refine bD (H2.step λv hq up=>ih p v _ _ k nm args vd sp c2 hq nw (up v2) gQ) λw3 H3=>?_;replace H3:=ah H3;go_wp2_with fail;go_roundg (gk - 1)
    case measure=>omega
    case rel=>exact⟨j+1,rfl,by omega,H3.cast (by rw[hT.out];simp)⟩
  .have jS:¬((j:Int) < (l.length:Int)):=by omega
   have H':=ah (H.cast (ws':=ws++mq "[" (ka f) l l.length) (by rw[show j=l.length by omega]))
   cases l with
   |nil=>go_wp2_with fail;go_end0;exact⟨rfl,H'.cast (by simp[mq,wBr])⟩
   |cons y l=>have h1:(0:Int) < (((y::l).length:Nat):Int):=wg;have hw:=ah (Ix (s:= "[") (e:= "]") (g:=ka f) (l:=y::l) ai);rw[hw.out] at hN;generalize hWW:mq "[" (ka f) (y::l) (y::l).length=WW at hN H' hw;generalize (y::l).length=LL at h1 jS lC|-;go_wp2_with fail;refine bD (H'.step λv hq _=>cN hq "]" (by have:=hN.out;simp at this|-;omega)) λw2 H2=>?_;replace H2:=ah H2;go_wp2_with fail;go_end0;exact⟨rfl,H2.cast (by rw[hw.out];simp)⟩
def afs{f:Nat}{k:Int}{v:TG}:ka (f+1) [k,nm,args,v,s]=(if v then[tx "detachable"] else[])++(if s then[tx "separate"] else[])++[if k==1 then tx "INTEGER" else if k==2 then tx "BOOLEAN" else nm]++wBr "[" "]" (ka f) args:=rfl
def wTy{f:Nat}(ih:WTy f):WTy (f+1):=by
 intro p v V ws k nm args vd sp x h eF hx hN;rw[afs] at hN|-;have hsa:=Yx eF;obtain⟨a,cap,rfl,gF⟩:=hx.aU;have S:=h.start.box (.cells #[k,nm,sV a args.length cap,vd,sp] 146 (0,0));obtain⟨AA,hA⟩:∃A,(if vd then[tx "detachable"] else[])=A:=⟨_,rfl⟩
 obtain⟨BB,hB⟩:∃A,(if sp then[tx "separate"] else[])=A:=⟨_,rfl⟩
 obtain⟨NN,hNn⟩:∃A,(if k==1 then tx "INTEGER" else if k==2 then tx "BOOLEAN" else nm)=A:=⟨_,rfl⟩
 rw[hA,hB,hNn] at hN|-;have hlA:AA.length<=1:=by rw[<-hA];split<;>simp
 obtain⟨-,-,-,d3,d4,-⟩:=cc (S.heap 0);revert h hsa hx S hA hB hN hNn;refine TR ?_;intro h hsa hx S hA hB hN hNn;go_enter func120,ntmps120;go_upto_if 5 with fail;go_cut [] from 6 (λwc=>WF p v V (ws++AA) [(V,.cells #[k,nm,sV a args.length cap,vd,sp] 146 (0,0))] wc)
 case first=>
  cases vd with
  |true=>
   go_wp2_with fail;refine bD (S.step λv hq _=>cN hq "detachable" (by have h1:=hN.out;rw[<-hA.out] at h1;simp at h1|-;omega)) λw2 H2=>?_;replace H2:=ah H2;go_wp2_with fail;go_meet
   case rel=>exact H2.cast (by rw[<-hA.out];rfl)
  |false=>
   go_wp2_with fail;go_meet
   case rel=>exact S.cast (by rw[<-hA.out];simp)
 case rest=>
 obtain⟨-,-,-,d3,d4,-⟩:=cc (hcut.heap 0);have S:=ah hcut;go_upto_if 9 with fail;go_cut [] from 10 (λwc=>WF p v V (ws++AA++BB) [(V,.cells #[k,nm,sV a args.length cap,vd,sp] 146 (0,0))] wc)
 case first=>
  cases sp with
  |true=>
   go_wp2_with fail;refine bD (S.step λv hq _=>cN hq "separate" (by have h1:=hN.out;rw[<-hB.out] at h1;simp at h1|-;omega)) λw2 H2=>?_;replace H2:=ah H2;go_wp2_with fail;go_meet
   case rel=>exact H2.cast (by rw[<-hB.out];rfl)
  |false=>
   go_wp2_with fail;go_meet
   case rel=>exact S.cast (by rw[<-hB.out];simp)
 case rest=>
 obtain⟨d0,d1,d2,-⟩:=cc (hcut.heap 0);have S:=ah hcut;by_cases k1:k=1
 .go_wp2_with fail;refine bD (S.step λv hq _=>cN hq "INTEGER" az) λw2 H2=>?_;refine vB ?_;intro d2 w3 H3;exact⟨rfl,H3.fin.cast (by rw[<-hNn.out];rw[k1];simp)⟩
 .have n1:¬1=k:=λe=>k1 e.symm;by_cases k2:k=2
  .go_wp2_with fail;refine bD (S.step λv hq _=>cN hq "BOOLEAN" az) λw2 H2=>?_;refine vB ?_;intro d2 w3 H3;exact⟨rfl,H3.fin.cast (by rw[<-hNn.out];rw[k2];simp)⟩
  .have n2:¬2=k:=λe=>k2 e.symm;go_wp2_with fail;refine bD (S.step λv hq _=>NX hq nm az) λw2 H2=>?_;refine vB ?_;intro d2 w3 H3;exact⟨rfl,H3.fin.cast (by rw[<-hNn.out];simp[k1,k2])⟩
def Mt:∀f,WTy f
 |0=>λp v V ws k nm args vd sp x _ h=>by simp[Iw,By] at h
 |f+1=>wTy (Mt f)
open Go.IntWalk
def aaI{g:Nat}{x:Int}(h:W.heap[g]?=some (.cells #[.int .u8 x] 5 (0,0))):(convert 152 9 (sV g 1 1)).run prog W=.ok (.string (bs [x.toNat])) W:=
 run_convert_bytes_arg W 152 5 underlying152 underlying5 g 0 1 1 [x] rfl (λi hi=>by
  have:i=0:=ab;subst this;exact aC h 0) 9 underlying9
def tf(s:Yz):(bs s).size=s.length:=by simp[bs,ByteArray.size]
def VK:∀(f n:Nat),(tb f n).length<=f
 |0,_=>aM 0
 |f+1,n=>by
  unfold tb;split
  .simp
  .have:=VK f (n / 10);rw[j0,abi];omega
def aaJ{f n:Nat}:tb (f+1) n=if n < 10 then[48+n] else tb f (n / 10)++[48+n % 10]:=rfl
def aaK(a b:Yz):(bs a)++(bs b)=bs (a++b):=by
 apply ByteArray.ext
 rw[ByteArray.data_append];simp[bs]
def Q4:∀(f:Nat),f<=100->∀(n:Nat),n<=9223372036854775807->n < 10 ^ f->∀(w:YC),Calls prog 260 #[n] w λe w'=>e=.returned (.string (bs (tb (f+1) n)))/\Kept aK w w':=by
 intro f hf;have base:∀(n:Nat),n < 10->∀(w:YC),Calls prog 260 #[n] w λe w'=>e=.returned (.string (bs [48+n]))/\Kept aK w w':=by refine aui ?_;intro n h3 w h0 h4 hn hc;go_enter func260,ntmps260;exact atB
 induction f with
 |zero=>exact atu
 |succ f ih=>
 intro n h1 h2 w;rw[aaJ];by_cases h3:n < 10
 .rw[aI h3];exact base n h3 w
 .rw[aE h3];have h0:¬(n:Int) < 0:=ab;have h4:¬(n:Int) < 10:=ab;have ih':=ih ab (n / 10) ab aug;rw[show((n / 10:Nat):Int)=(n:Int) / 10 from by omega] at ih';have hw5:IntKind.i64.wrap (48+(n:Int) % 10)=48+(n:Int) % 10:=i64_in _ ab;have hw6:IntKind.u8.wrap (48+(n:Int) % 10)=48+(n:Int) % 10:=u8_in _ ab;have hwq:IntKind.i64.wrap ((n:Int) / 10)=(n:Int) / 10:=i64_in _ ab;have dM:¬9223372036854775807 < (bs (tb (f+1) (n / 10))).size+(bs [48+n % 10]).size:=by exact au0
  have Qy:(48+(n:Int) % 10).toNat=48+n % 10:=ab;replace ih':=ah ih';go_enter func260,ntmps260;go_wp2_with fail;refine aY [some 12,some 13,some 14,some 15,some 16,some 17,some 18,some 19,some 20,some 21,some 2] [0,1,2,3,4,5,6,7,8,9,10] (A:=?_) (λlb u V=>(Kept aK w V/\(lb 7=true->∃g,u 7=sV (some ⟨g,0,none⟩) 1 1/\w.heap.size<=g/\V.heap[g]?=some (.cells #[.int .u8 (48+(n:Int) % 10)] 5 (0,0))))/\VT [some (iV n),some (iV ((n:Int) / 10)),some (.string (bs (tb (f+1) (n / 10)))),some (iV n),some (iV ((n:Int) % 10)),some (iV (48+(n:Int) % 10)),some (.int .u8 (48+(n:Int) % 10)),none,some (.string (bs [48+n % 10])),some (.string (bs (tb (f+1) (n / 10)++[48+n % 10]))),some (.string (bs (tb (f+1) (n / 10)++[48+n % 10])))] lb u) af af (λu=>?_) (λlb u h0=>⟨⟨(Kept.refl aK w).drew,λe=>mX⟩,VT.none rfl h0⟩) ?_ (λlb u V hl hI=>?_);rotate_left
  .exact bK
  .exact as8
  exact ati
abbrev okK(k:Int):Prop:=k=1∨k=6∨k=8∨k=10
def fC(k:Int)(hk:okK k)(nm:Yz)(n:Int)(x:YE)(w:YC):Calls prog 261 #[.agg #[iV k,.string (bs nm),iV n,x]] w λe w'=>e=.returned (iV (aS k nm:Nat))/\Kept aK w w':=by
 have K0:Kept aK w (w.alloc (.cells #[k,nm,n,x] 181 (0,0))):=(Kept.refl aK w).alloc _;have hb:(w.alloc (.cells #[k,nm,n,x] 181 (0,0))).heap[w.heap.size]?=some (.cells #[k,nm,n,x] 181 (0,0)):=ao;have b0:=bc hb 0;rcases hk with rfl|rfl|rfl|rfl;all_goals
  go_enter func261,ntmps261;go_wp2_with fail
  first|go_ret|(refine bG (rB rfl _ _ _) rfl ?_)
  exact⟨rfl,K0⟩
def WF.tail{w:YC}{b:Nat×Obj}{bs:List (Nat×Obj)}(h:WF p v0 w ws (b::bs) V):WF p v0 w ws bs V:=by obtain⟨v,hq,hv,hb⟩:=h.q;exact⟨⟨v,hq,hv,λq xG=>hb q (eC _ xG)⟩,λq xG=>h.bx q (eC _ xG),h.pw,h.ow,h.kp⟩
structure WG (p:Nat) (v0:YE) (w:YC) (rh rest:Y9) (bs:List (Nat×Obj)) (V:YC):Prop where
 out:∃ws,WF p v0 w ws bs V/\ws++rest=rh/\rh.length<=1000000
def WF.aiv{w:YC}{bs:List (Nat×Obj)}{V':YC}{b:Nat}{o o':Obj}(h:WF p v0 w ws ((b,o)::bs) V)(hk:Kept (λk=>k=b) V V')(hb:V'.heap[b]?=some o')(hn:∀q∈bs,q.1≠b):WF p v0 w ws ((b,o')::bs) V':=by
 obtain⟨v,hq,hv,QD⟩:=h.q;have h1:=h.bx _ (eu ..);have h2:=QD _ (eu ..);refine⟨⟨v,hq.kept hk λi e _=>by subst e;exact⟨λe=>by have:=h.pw;have:=h1.1;simp only at this;omega,h2⟩,hv,λq xG=>?_⟩,λq xG=>?_,h.pw,h.ow,h.kp.trans hk λi hi e=>by have:=h1.1;simp only at this;omega⟩
 .rcases cZ.1 xG with rfl|xG
  .exact h2
  .exact QD q (eC _ xG)
 .rcases cZ.1 xG with rfl|xG
  .exact⟨h1.1,hb⟩
  .have h3:=h.bx q (eC _ xG);exact⟨h3.1,(hk.block _ (h.lt (eC _ xG)) (hn q xG)).trans h3.2⟩
def aaN(l:Y9):(l.map λs=>Value.string (bs s)).toArray.toList=(l.map λs=>[.string (bs s)]).flatten:=by
 induction l with
 |nil=>rfl
 |cons a l ih=>simpa using ih
def afD:List Value->Nat->Option Value
 |[],_=>none
 |x::_,0=>some x
 |_::l,n+1=>afD l n
def aaO:∀(l:YT) (j:Nat),afD l j=l[j]?
 |[],_=>by simp[afD]
 |x::_,0=>rfl
 |_::l,n+1=>by simpa[afD] using aaO l n
namespace WG
variable {p:Nat}{v v0:YE}{w V V':YC}{rh ws rest rest' words:Y9}{bl:List (Nat×Obj)}{Q:Ending -> World -> Prop}
def start(h:WQ p v V ws)(hN:ws.length+words.length<=1000000):(WG p v V (ws++words) words [] V):=⟨⟨ws,h.start,rfl,by simpa using hN⟩⟩
def c{b:Nat}{cs:Zt}{T:UB}{x:YE}(S:WG p v0 w rh rest bl V)(i j:Nat)(hi:bl[i]?=some (b,.cells cs T (0,0)):=by rfl)(hx:afD cs.toList j=some x:=by rfl):V.cell? ⟨b,j,none⟩=some x:=by rw[aaO,Qu] at hx;obtain⟨ws,h,-⟩:=S.out;rw[aC (h.heap i hi),hx]
def box(S:(WG p v0 w rh rest bl V))(o:Obj):(WG p v0 w rh rest ((V.heap.size,o)::bl) (V.alloc o)):=by obtain⟨ws,h,e⟩:=S.out;exact⟨⟨ws,h.box o,e⟩⟩
def heap{b:Nat}{o:Obj}(S:(WG p v0 w rh rest bl V))(i:Nat)(hi:bl[i]?=some (b,o):=by rfl):V.heap[b]?=some o:=by obtain⟨ws,h,e⟩:=S.out;exact h.heap i hi
def YB(S:(WG p v0 w rh rest bl V))(z cs:Zt)(T:UB):(WG p v0 w rh rest ((V,.cells cs T (0,0))::bl) ((V.alloc (.cells z T (0,0))).setRow V.heap.size cs)):=by obtain⟨ws,h,e⟩:=S.out;have h1:=h.box (.cells z T (0,0));refine⟨⟨ws,h1.aiv (fH _ _ cs) (lz _ _ z cs T (0,0) ao) λq hq e=>?_,e⟩⟩;have:=h.lt hq;omega
def tail{b:Nat×Obj}(S:(WG p v0 w rh rest (b::bl) V)):(WG p v0 w rh rest bl V):=by obtain⟨ws,h,e⟩:=S.out;exact⟨⟨ws,h.tail,e⟩⟩
def no(S:(WG p v0 w rh rest bl V))(hk:Kept aK V V'):(WG p v0 w rh rest bl V'):=by obtain⟨ws,h,e⟩:=S.out;exact⟨⟨ws,h.no hk,e⟩⟩
def cast(S:(WG p v0 w rh rest bl V))(e:rest=rest'):(WG p v0 w rh rest' bl V):=e▸S
def fin(S:(WG p v0 w rh [] bl V)):WP p v0 w rh (.returned (.tuple #[])) V:=by obtain⟨ws,h,rfl,-⟩:=S.out;exact⟨rfl,h.fin.cast ai⟩
def bA{g j:Nat}{x:YE}(S:(WG p v0 w rh rest bl V))(hg:Dt p v0 g)(hc:w.cell? ⟨g,j,none⟩=some x):V.cell? ⟨g,j,none⟩=some x:=by obtain⟨ws,h,e⟩:=S.out;exact h.bA hg hc
def alM(h:WQ p v V ws)(hN:ws.length+words.length<=1000000):∃rh,ws++words=rh/\(WG p v V rh words [] V):=⟨_,rfl,start h hN⟩
def data{t:T}{x:YE}(S:WG p v0 w rh rest bl V)(hd:an (Dt p v0) w t x):an (λb=>b < V.heap.size/\Dt p v0 b) V t x:=by
 obtain⟨ws,h,-⟩:=S.out;exact(hd.mono (S':=λb=>b < w.heap.size/\Dt p v0 b) λb hb hl=>⟨hl,hb⟩).keep (λb hb _=>⟨qD hb.1 h.kp.size,hb.2⟩) h.kp.size λb hb hl=>h.kp.block b hl λe=>by
  rcases e with e|e
  .exact hb.2.1 e
  .exact hb.2.2 e
def call{fn:RB}{args:Zt}(S:(WG p v0 w rh (words++rest) bl V))(c:∀v ws,WQ p v V ws->(∀{t x},an (Dt p v0) w t x->an (Dt p v) V t x)->ws.length+words.length+rest.length<=1000000->Calls prog fn args V (WP p v V (ws++words)))(k:∀w',(WG p v0 w rh rest bl w')->Q (.returned (.tuple #[])) w'):Calls prog fn args V Q:=by obtain⟨ws,h,rfl,hN⟩:=S.out;refine bD (h.step λv hq up=>c v ws hq up wu) λw' h'=>?_;exact k w' ⟨⟨ws++words,h',by simp,hN⟩⟩
def one{s:Yz}{b:YR}(S:(WG p v0 w rh (s::rest) bl V))(k:∀w',(WG p v0 w rh rest bl w')->Q (.returned (.tuple #[])) w')(hb:b=bs s:=by rfl):Calls prog 74 #[pW p,.string b] V Q:=by subst hb;exact call (words:=[s]) S (λv ws hq _ hN=>NX hq s wu) k
def aos{gz n:Nat}{l:Y9}{wS:Zt}(S:(WG p v0 w rh (l++rest) bl V))(k:∀w',(WG p v0 w rh rest bl w')->Q (.returned (.tuple #[])) w')(hv:wS=(l.map λs=>Value.string (bs s)).toArray)(hz:gz=V.heap.size)(hn:n=l.length)(h6:l.length<=1000):Calls prog 75 #[pW p,sV gz n n] (V.alloc (cO wS 9)) Q:=by subst hv hz hn;obtain⟨ws,h,rfl,hN⟩:=S.out;have S:=h.box (.cells (l.map λs=>Value.string (bs s)).toArray 9);obtain⟨v,hq,hv,hb⟩:=S.q;have h0:=S.bx _ (eu ..);have hc:=aW (S:=Dt p v) (rows:=strs l) (cap:=l.length) (wd:=1) h0.2 (css:=l.map λs=>[.string (bs s)]) (aaN l) (gP l) ⟨by have:=S.pw;have:=h0.1;simp only at*;omega,hb _ (eu ..)⟩ bR wj;rw[show(strs l).length=l.length by simp[strs]] at hc;refine bD (aiw hq l hc wu) λw' h'=>?_;have h2:=(S.after hv hb h').tail;exact k w' ⟨⟨ws++l,h2,by simp,hN⟩⟩
def YA{gz:Nat}{s1 s2:Yz}{b1 b2:YR}(S:(WG p v0 w rh (s1::s2::rest) bl V))(k:∀w',(WG p v0 w rh rest bl w')->Q (.returned (.tuple #[])) w')(h1:b1=bs s1:=by rfl)(h2:b2=bs s2:=by rfl)(hz:gz=V.heap.size:=by first|rfl|simp):Calls prog 75 #[pW p,sV gz 2 2] (V.alloc (cO #[b1,b2] 9)) Q:=by subst h1 h2;exact aos (l:=[s1,s2]) S k rfl hz rfl ai
def alL{gz:Nat}{s1 s2 s3:Yz}{b1 b2 b3:YR}(S:(WG p v0 w rh (s1::s2::s3::rest) bl V))(k:∀w',(WG p v0 w rh rest bl w')->Q (.returned (.tuple #[])) w')(h1:b1=bs s1:=by rfl)(h2:b2=bs s2:=by rfl)(h3:b3=bs s3:=by rfl)(hz:gz=V.heap.size:=by first|rfl|simp):Calls prog 75 #[pW p,sV gz 3 3] (V.alloc (cO #[b1,b2,b3] 9)) Q:=by subst h1 h2 h3;exact aos (l:=[s1,s2,s3]) S k rfl hz rfl ai
def named{s:TC}{b:YR}{l:Y9}{x:YE}(S:(WG p v0 w rh (ib s (strs l)++rest) bl V))(hx:an (Dt p v0) w (.sl (strs l)) x)(k:∀w',(WG p v0 w rh rest bl w')->Q (.returned (.tuple #[])) w')(hb:b=bs (tx s):=by rfl)(hr:rest≠[]:=by simp):Calls prog 77 #[pW p,.string b,x] V Q:=
 call S (λv ws hq up hN=>alG hq s l (up hx) (by
  replace hr:=ac4.2 hr;have hso:strsOf (strs l)=l:=mW;unfold ib at hN;rw[hso] at hN
  cases l with
  |nil=>simp[du] at hN|-;omega
  |cons a l=>simp only[strs,lp,List.isEmpty_cons,rW,qE,dC] at hN|-;omega) hb) k
def afE{s:TC}{b:YR}{x:YE}(S:WG p v0 w rh rest bl V)(hx:an (Dt p v0) w (.sl []) x)(k:∀w',WG p v0 w rh rest bl w'->Q (.returned (.tuple #[])) w')(hb:b=bs (tx s):=by rfl)(hr:rest≠[]:=by simp):Calls prog 77 #[pW p,.string b,x] V Q:=
 named (s:=s) (l:=[]) S hx k hb hr
end WG
end Go.Proofs.Gm
