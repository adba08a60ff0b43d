/- A part of the proof of BaseTexts. No condition. -/
import Derived.Test.YtibajhihfaggfaaGreatDoorPAO
import Derived.Test.YtibajhihfaggfaaGreatDoorPAP
set_option linter.all false
set_option maxRecDepth 100000
set_option maxHeartbeats 8000000
namespace Go.Proofs.Gm
open Go.Proofs.Tryz
open Go.RowKit Go.Maps
open Go.Proofs.Bm
variable {g p lv:Nat}{ws ws':List (List Nat)}{V W:World}{v:Value}{nm:List Nat}{k n:Int}{kids l args:List Row}{α:Type}{S:Nat->Prop}{s:Bool}{x:Row}
structure WQ (p:Nat) (v:Value) (V:World) (ws:List (List Nat)):Prop where
 hp:V.heap[p]?=some (.cells #[v] 96 (0,0))
 ow:OwnR 0 (fun _=>False) V 9 1 v (strs ws)
 ne:v.ownBlock≠some p
def Dt(p:Nat)(v:Value):Nat->Prop:=fun b=>b≠p/\v.ownBlock≠some b
structure WF (p:Nat) (v0:Value) (w:World) (ws:List (List Nat)) (bs:List (Nat×Obj)) (V:World):Prop where
 q:∃v,WQ p v V ws/\(v.ownBlock=v0.ownBlock∨∀b,v.ownBlock=some b->w.heap.size<=b)/\∀q∈bs,v.ownBlock≠some q.1
 bx:∀q∈bs,w.heap.size<=q.1/\V.heap[q.1]?=some q.2
 pw:p < w.heap.size
 ow:∀b,v0.ownBlock=some b->b < w.heap.size
 kp:Kept (fun b=>b=p∨v0.ownBlock=some b) w V
abbrev pW(p:Nat):Value:=.pointer p
namespace WQ
open Go.Proofs.Tryz
variable {p:Nat}{v:Value}{V V':World}{ws:List (List Nat)}
def lt(h:WQ p v V ws):p < V.heap.size:=(aQ.1 h.hp).1
def start(h:WQ p v V ws):WF p v V ws [] V:=⟨⟨v,h,.inl rfl,by simp⟩,by simp,h.lt,fun b e=>(h.ow.lt b e).2,Kept.refl _ _⟩
def kept(h:WQ p v V ws){F:Nat->Prop}(hk:Kept F V V')(hF:∀b,F b->b < V.heap.size->Dt p v b):WQ p v V' ws:=
 ⟨(hk.block p h.lt fun e=>(hF p e h.lt).1 rfl).trans h.hp,h.ow.kept hk (fun _ e=>e.elim) (fun b e hf=>(hF b hf (h.ow.lt b e).2).2 e),h.ne⟩
end WQ
namespace WF
open Go.Proofs.Tryz
variable {p:Nat}{v0:Value}{w V V':World}{ws ws':List (List Nat)}{bs:List (Nat×Obj)}{b i:Nat}{o:Obj}{t:T}{x:Value}
def lt(h:WF p v0 w ws bs V){q:Nat×Obj}(hq:q∈bs):q.1 < V.heap.size:=(aQ.1 (h.bx q hq).2).1
def heap(h:WF p v0 w ws bs V)(i:Nat)(hi:bs[i]?=some (b,o):=by rfl):V.heap[b]?=some o:=(h.bx _ (cm hi)).2
def cell(h:WF p v0 w ws bs V)(i j:Nat){cs:Array Value}{T:TypeId}(hi:bs[i]?=some (b,.cells cs T (0,0)):=by rfl):V.cell? ⟨b,j,none⟩=cs[j]?:=aC (h.heap i hi) j
def at'(h:WF p v0 w ws bs V){v:Value}(hv:v.ownBlock=v0.ownBlock∨∀b,v.ownBlock=some b->w.heap.size<=b)(hd:an (Dt p v0) w t x):an (Dt p v) V t x:=
 (hd.mono (S':=fun b=>Dt p v0 b/\b < w.heap.size) fun _ hb hl=>⟨hb,hl⟩).kept h.kp (fun b hb _ e=>by
  rcases e with e|e
  ·exact hb.1.1 e
  ·exact hb.1.2 e) |>.mono fun b hb _=>⟨hb.1.1,fun e=>by
   rcases hv with hv|hv
   ·exact hb.1.2 (hv▸e)
   ·have:=hv b e;omega⟩
def bA(h:WF p v0 w ws bs V){g j:Nat}(hg:Dt p v0 g)(hc:w.cell? ⟨g,j,none⟩=some x):V.cell? ⟨g,j,none⟩=some x:=
 h.kp.aq hc (fun e=>by rcases e with e|e;exact hg.1 e;exact hg.2 e)
def box(h:WF p v0 w ws bs V)(o:Obj):WF p v0 w ws ((V.heap.size,o)::bs) (V.alloc o):=by
 obtain⟨v,hq,hv,hb⟩:=h.q;have hk:=(Kept.refl aK V).alloc o;refine⟨⟨v,hq.kept hk fun _ e=>e.elim,hv,fun q xG=>?_⟩,fun q xG=>?_,h.pw,h.ow,h.kp.trans hk fun _ _ e=>e.elim⟩
 ·rcases cZ.1 xG with rfl|xG
  ·exact fun e=>by have:=(hq.ow.lt _ e).2;omega
  ·exact hb q xG
 ·rcases cZ.1 xG with rfl|xG
  ·exact⟨h.kp.size,by rw[heap_alloc,aI rfl]⟩
  ·exact⟨(h.bx q xG).1,(jm _ _ _ (h.lt xG)).trans (h.bx q xG).2⟩
def no(h:WF p v0 w ws bs V)(hk:Kept aK V V'):WF p v0 w ws bs V':=by obtain⟨v,hq,hv,hb⟩:=h.q;exact⟨⟨v,hq.kept hk fun _ e=>e.elim,hv,hb⟩,fun q xG=>⟨(h.bx q xG).1,aJ (h.bx q xG).2 hk⟩,h.pw,h.ow,h.kp.trans hk fun _ _ e=>e.elim⟩
def fin(h:WF p v0 w ws bs V):WF p v0 w ws [] V:=by obtain⟨v,hq,hv,hb⟩:=h.q;exact⟨⟨v,hq,hv,by simp⟩,by simp,h.pw,h.ow,h.kp⟩
def after(h:WF p v0 w ws bs V){v:Value}(hv:v.ownBlock=v0.ownBlock∨∀b,v.ownBlock=some b->w.heap.size<=b)(hb:∀q∈bs,v.ownBlock≠some q.1)(k:WF p v V ws' [] V'):WF p v0 w ws' bs V':=by
 obtain⟨v',hq,IN,-⟩:=k.q;have dM:=h.kp.size;refine⟨⟨v',hq,?_,fun q xG=>?_⟩,fun q xG=>⟨(h.bx q xG).1,(k.kp.block _ (h.lt xG) fun e=>?_).trans (h.bx q xG).2⟩,h.pw,h.ow,h.kp.trans k.kp fun i hi e=>?_⟩
 ·rcases IN with e|e
  ·rcases hv with hv|hv
   ·exact .inl (e.trans hv)
   ·exact .inr fun b hb'=>hv b (e▸hb')
  ·exact .inr fun b hb'=>cn dM (e b hb')
 ·rcases IN with e|e
  ·rw[e];exact hb q xG
  ·exact fun e'=>by have:=e _ e';have:=h.lt xG;omega
 ·rcases e with e|e
  ·have:=(h.bx q xG).1;have:=h.pw;omega
  ·exact hb q xG e
 ·rcases e with e|e
  ·exact .inl e
  ·rcases hv with hv|hv
   ·exact .inr (hv▸e)
   ·have:=hv i e;omega
def step{fn:FuncId}{args:Array Value}{r:Ending}(h:WF p v0 w ws bs V)(c:∀v,WQ p v V ws->(∀{t x},an (Dt p v0) w t x->an (Dt p v) V t x)->Calls prog fn args V fun e w'=>e=r/\WF p v V ws' [] w'):Calls prog fn args V fun e w'=>e=r/\WF p v0 w ws' bs w':=by obtain⟨v,hq,hv,hb⟩:=h.q;exact(c v hq fun hd=>h.at' hv hd).mono fun e w' ⟨h1,h2⟩=>⟨h1,h.after hv hb h2⟩
end WF
def Yw{w:World}(h:OwnR 0 S w 9 1 v (strs ws)):OwnR 0 (fun _=>False) w 9 1 v (strs ws):=by
 obtain⟨css,h1,h2⟩:=h;refine⟨css,?_,h2⟩;clear h2;generalize hr:strs ws=rows at h1;induction h1 generalizing ws with
 |nil=>exact .nil
 |@cons a b l m hab _ ih=>
  cases ws with
  |nil=>cases hr
  |cons s ws=>
   simp only[strs,lp,IZ] at hr;obtain⟨rfl,hr⟩:=hr;refine .cons ⟨hab.1,?_⟩ (ih hr);obtain⟨c0,Ap,rfl,v0,h0⟩:=hab.2.aG
   cases v0.bq;have:=h0.jO;subst this;exact .cons (.str _) .nil
abbrev WP(p:Nat)(v:Value)(V:World)(ws:List (List Nat))(e:Ending)(w':World):Prop:=e=.returned (.tuple #[])/\WF p v V ws [] w'
def VH{v':Value}(h:WQ p v V ws)(hO:OwnR 0 (fun _=>False) W 9 1 v' (strs ws'))(hk:Kept (fun j=>v.ownBlock=some j) V W)(hv:v'.ownBlock=v.ownBlock∨∀b,v'.ownBlock=some b->V.heap.size<=b):W.heap[p]?=some (.cells #[v] 96 (0,0))/\WF p v V ws' [] (W.setCell ⟨p,0,none⟩ v'):=by
 have hb:W.heap[p]?=some (.cells #[v] 96 (0,0)):=(hk.block p h.lt h.ne).trans h.hp;have cR:v'.ownBlock≠some p:=fun e=>by
  rcases hv with hv|hv
  ·exact h.ne (hv▸e)
  ·have:=hv p e;have:=h.lt;omega
 have ks:=au (W:=W) p 0 v';refine⟨hb,⟨v',⟨heap_setCell_same W p 0 v' hb,hO.kept ks (fun _ e=>e.elim) (fun b e e'=>cR (e'▸e)),cR⟩,hv,by simp⟩,by simp,h.lt,fun b e=>(h.ow.lt b e).2,?_⟩;exact(hk.mono fun b e=>.inr e).trans ks fun b _ e=>.inl e
def NX(h:WQ p v V ws)(s:List Nat)(hN:ws.length+1<=1000000):Calls prog 74 #[pW p,.string (bs s)] V (WP p v V (ws++[s])):=by obtain⟨i,hi,hz,dM,dY⟩:=dN QO;obtain⟨a,c,rfl⟩:=h.ow.form;have hb:=ah h.hp;have d:=bc hb 0;have hK:=(Kept.refl aK V).alloc (cO #[s] 9);have h':=h.kept hK fun _ e=>e.elim;have hB:=dE (V.alloc (cO #[s] 9)).heap.size;have eG:∀(j:Nat) (u:Value),([s]:List Value)[j]?=some u->(V.alloc (cO #[s] 9)).cell? ((⟨V,0,none⟩:Addr).add j)=some u:=eH;revert hN hi hz dM dY h hK h' hB eG;refine zQ ?_;intro hN hi hz dM dY h hK h' hB eG;go_enter func74,ntmps74;refine kN ?_;refine bu (P:=prog) underlying22 hi hz dM dY rfl ab ab rfl (.tmp 8) (.tmp 10) rfl rfl ⟨V,0,none⟩ 1 rfl [s] [s] h'.ow hB Lq rfl eG (.cons (.str _) .nil) ?_;intro v' W hO hk hv;have e1:strs ws++[[.str s]]=strs (ws++[s]):=bR;rw[e1] at hO;obtain⟨a2,c2,jo⟩:=hO.form;generalize (strs (ws++[s])).length=n2 at jo;subst jo;obtain⟨jy,hW⟩:=VH h.out hO (((Kept.refl (fun j=>(Value.slice a (strs ws).length c).ownBlock=some j) V).alloc _).trans' hk) (hv.imp id fun e b hb=>by have:=e b hb;simp at this;omega);exact DT
def aiw(h:WQ p v V ws)(l:List (List Nat)){x:Value}(hx:an (Dt p v) V (.sl (strs l)) x)(hN:ws.length+l.length<=1000000):Calls prog 75 #[pW p,x] V (WP p v V (ws++l)):=by
 obtain⟨i,hi,hz,dM,dY⟩:=dN QO;obtain⟨a,c,rfl⟩:=h.ow.form;obtain⟨ax,cx,rfl,-⟩:=hx.aU;have hb:=ah h.hp;have d:=bc hb 0;have hB:=dE V.heap.size;have hx':=hx.mono (S':=fun b=>(fun _=>True) b/\(Value.slice a (strs ws).length c).ownBlock≠some b) fun b hb _=>⟨bw,hb.2⟩
 have iH:OwnR 0 (fun _=>True) V 9 1 (.slice a (strs ws).length c) (strs ws):=h.ow.mono fun _ e=>e.elim;revert hN hi hz dM dY h hB hx' iH;refine hd9 ?_;intro hN hi hz dM dY h hB hx' iH;go_enter func75,ntmps75;refine kN ?_;refine kZ (P:=prog) underlying22 hi hz dM dY rfl ab ab rfl (.tmp 8) (.tmp 9) rfl rfl (rows2:=strs l) rfl iH hB Lq (by intro row hr;obtain⟨s,_,rfl⟩:=dO.1 hr;rfl) hx' ?_;intro v' W U8 hk hv;have e1:strs ws++strs l=strs (ws++l):=bR;rw[e1] at U8;obtain⟨a2,c2,jo⟩:=U8.form;generalize (strs (ws++l)).length=n2 at jo;subst jo;have hO:=Yw U8;obtain⟨jy,hW⟩:=VH h.out hO (((Kept.refl (fun j=>(Value.slice a (strs ws).length c).ownBlock=some j) V)).trans' hk) (hv.imp id fun e b hb=>by have:=e b hb;omega);exact DT
open Go.Proofs.Tryz
open Go.RowKit Go.Maps
open Go.Proofs.Bm
def WF.cast{v0:Value}{w:World}{bs:List (Nat×Obj)}(h:WF p v0 w ws bs V)(e:ws=ws'):WF p v0 w ws' bs V:=e▸h
def cN(h:WQ p v V ws)(s:String){b:ByteArray}(hN:ws.length+1<=1000000)(hb:b=bs (tx s):=by rfl):Calls prog 74 #[pW p,.string b] V (WP p v V (ws++[tx s])):=by subst hb;exact NX h (tx s) hN
def LM(y:List (List Nat)):∀(xs:List (List (List Nat))),du (xs++[y])=du xs++((if xs.isEmpty then[] else[tx ","])++y)
 |[]=>rfl
 |[x]=>by simp[du]
 |x::z::xs=>by
  have:=LM y (z::xs);simp only[qF,du] at this ⊢;rw[this];simp
def ze{g:α->List (List Nat)}{l:List α}{k:Nat}{x:α}(hx:l[k]?=some x):du ((l.take (k+1)).map g)=du ((l.take k).map g)++((if k=0 then[] else[tx ","])++g x):=by
 have hk:=(dk.1 hx).1;rw[wZ,hx,Qq,MM,lp,xK,LM];congr 2
 by_cases h:k=0
 ·subst h;simp
 ·rw[aE h];have hl:0 < ((l.take k).map g).length:=by rw[Af,sK];omega
  cases hh:(l.take k).map g with
  |nil=>rw[hh] at hl;simp at hl
  |cons y ys=>rfl
def OO{g:α->List (List Nat)}{l:List α}:∀{k:Nat},k<=l.length->(du ((l.take k).map g)).length<=(du (l.map g)).length:=by
 intro k hk;obtain⟨n,hn⟩:∃n,l.length=k+n:=⟨l.length - k,by omega⟩
 induction n generalizing k with
 |zero=>rw[oh ab];exact aM _
 |succ n ih=>
  obtain⟨x,hx⟩:∃x,l[k]?=some x:=⟨_,ck ab⟩
  have h1:=ze (g:=g) hx;exact D2
def Q3{g:α->List (List Nat)}{l:List α}{k:Nat}{x:α}(hx:l[k]?=some x):(l.take (k+1)).flatMap g=(l.take k).flatMap g++g x:=by rw[wZ,hx];simp
def VI{g:α->List (List Nat)}{l:List α}{k:Nat}:((l.take k).flatMap g).length<=(l.flatMap g).length:=by
 conv=>rhs;rw[<-Rq k l]
 rw[Qt,j0];exact Nat.le_add_right _ _
def aaH(h:WQ p v V ws)(l:List (List Nat)){x:Value}(hx:an (Dt p v) V (.sl (strs l)) x)(hN:ws.length+(du (l.map fun s=>[s])).length<=1000000):Calls prog 78 #[pW p,x] V (WP p v V (ws++du (l.map fun s=>[s]))):=by
 obtain⟨a,cap,rfl,gF⟩:=hx.aU;have eG:(strs l).length=l.length:=bR;rw[eG] at hx gF ⊢;have lC:l.length<=9223372036854775807:=gF;revert h hN hx;refine jk ?_;intro h hN hx;go_enter func78,ntmps78;go_wp2_with fail;go_loopg [4] l.length (fun gg s4 wr=>∃k:Nat,s4=iV k/\k+gg=l.length/\WF p v V (ws++du ((l.take k).map fun s=>[s])) [] wr)
 case atStart=>exact⟨0,rfl,by omega,(h.start).cast (by simp[du])⟩
 case round=>
  obtain⟨j,rfl,zC,H⟩:=hrel;by_cases hj:j < l.length
  ·obtain⟨s,hs⟩:∃s,l[j]?=some s:=⟨_,ck hj⟩
   obtain⟨g,off,rfl,hg,cs,hR,fY⟩:=hx.out.elem (k:=j) (row:=[.str s]) wC;obtain⟨c0,Ap,rfl,v0,-⟩:=hR.aG
   cases v0.bq;have q0:V.cell? ⟨g,off+j,none⟩=(some (.string (bs s)):Option Value):=kg;refine kM ?_;intro jS sQ;have hT:=ze (g:=fun s:List Nat=>[s]) hs;have Lg:=OO (g:=fun s:List Nat=>[s]) (l:=l) (k:=j+1) ab;rw[hT] at Lg;revert hs hg hT Lg;refine jU ?_;intro hs hg hT Lg;by_cases Px:j=0
   ·have hj3:(j:Int)<=0:=by omega
    have hj4:¬(0:Int) < (j:Int):=ab;have q1:=H.bA hg q0;rw[Px,fS] at q1;go_wp2_with fail;refine bD (H.step fun v hq _=>NX hq s (by have h1:=hN.out;have h2:=Lg.out;rw[aI Px] at h2;simp at h1 h2 ⊢;omega)) fun w2 H2=>?_;replace H2:=ah H2;go_wp2_with fail;go_roundg (gk - 1)
    case measure=>omega
    case rel=>exact⟨j+1,by rw[Px];rfl,by omega,H2.cast (by rw[hT.out,aI Px];simp)⟩
   ·have hj3:¬(j:Int)<=0:=by omega
    have hj4:(0:Int) < (j:Int):=ab;go_wp2_with fail;refine bD (H.step fun v hq _=>cN hq "," He) fun w2 H2=>?_;have q1:=H2.bA hg q0;go_wp2_with fail;refine bD (H2.step fun v hq _=>NX hq s He) fun w3 H3=>?_;replace H3:=ah H3;go_wp2_with fail;go_roundg (gk - 1)
    case measure=>omega
    case rel=>exact⟨j+1,rfl,by omega,H3.cast (by rw[hT.out,aE Px];simp)⟩
  exact po
def alG(h:WQ p v V ws)(s:String){b:ByteArray}(l:List (List Nat)){x:Value}(hx:an (Dt p v) V (.sl (strs l)) x)(hN:ws.length+(du (l.map fun s=>[s])).length+1<=1000000)(hb:b=bs (tx s):=by rfl):
  Calls prog 77 #[pW p,.string b,x] V (WP p v V (ws++ib s (strs l))):=by
 obtain⟨a,cap,rfl,gF⟩:=hx.aU;have eG:(strs l).length=l.length:=bR;have hso:strsOf (strs l)=l:=mW;rw[eG] at hx gF ⊢;have hw:ib s (strs l)=if l.isEmpty then[] else tx s::du (l.map fun s=>[s]):=by unfold ib;rw[hso];cases l<;>rfl
 rw[hw];revert h hN hb hx;refine jU ?_;intro h hN hb hx
 cases l with
 |nil=>have aqt:=ah h.out.start;go_enter func77,ntmps77;go_wp2_with fail;go_end0;exact⟨rfl,aqt.cast ai⟩
 |cons s0 l=>have h1:(0:Int) < (((s0::l).length:Nat):Int):=wg;have h2:¬(((s0::l).length:Nat):Int)<=0:=ab;have jq:=ah h.out.start;generalize hLL:(s0::l).length=LL at h1 h2 hx gF ⊢;replace hLL:=ah hLL;go_enter func77,ntmps77;go_wp2_with fail;refine bD (jq.step fun v hq up=>cN hq s (by have:=hN.out;omega) hb) fun w2 H2=>?_;go_wp2_with fail;refine bD (H2.step fun v hq up=>aaH hq (s0::l) (up hx) (by have:=hN.out;rw[dC] at hLL;simp at this ⊢;omega)) fun w3 H3=>?_;replace H3:=ah H3;go_wp2;go_end0;exact⟨rfl,H3.cast ai⟩
def Iw(f:Nat)(r:Row):Bool:=(By f r).isSome
def Yx{f:Nat}{v:Bool}(h:Iw (f+1) [k,nm,args,v,s]=true):∀r∈args,Iw f r=true:=by obtain⟨d,hd⟩:=Rr.1 h;unfold By at hd;obtain⟨n,hn,_⟩:=aw.1 hd;intro r hr;obtain⟨d,hd⟩:=zI hn r hr;show(By f r).isSome=true;rw[hd];rfl
def WTy(f:Nat):Prop:=∀(p:Nat) (v:Value) (V:World) (ws:List (List Nat)) (k:Int) (nm:List Nat) (args:List Row) (vd sp:Bool) (x:Value),WQ p v V ws->Iw f [k,nm,args,vd,sp]=true->an (Dt p v) V (.sl args) x->ws.length+(ka f [k,nm,args,vd,sp]).length<=1000000->Calls prog 120 #[pW p,.agg #[k,nm,x,vd,sp]] V (WP p v V (ws++ka f [k,nm,args,vd,sp]))
def wBr(s e:String)(g:Row->List (List Nat))(l:List Row):List (List Nat):=if l.isEmpty then[] else tx s::du (l.map g)++[tx e]
def aix{s e:String}{g:Row->List (List Nat)}:wBr s e g []=[]:=rfl
def mq(s:String)(g:Row->List (List Nat))(l:List Row)(k:Nat):List (List Nat):=if k=0 then[] else tx s::du ((l.take k).map g)
def Ix{s e:String}{g:Row->List (List Nat)}(h:l≠[]):wBr s e g l=mq s g l l.length++[tx e]:=by
 cases l with
 |nil=>exact absurd rfl h
 |cons x l=>simp[wBr,mq]
def OP{s:String}{g:Row->List (List Nat)}{k:Nat}(hx:l[k]?=some x):mq s g l (k+1)=mq s g l k++((if k=0 then[tx s] else[tx ","])++g x):=by
 unfold mq;rw[aE ab,ze hx];by_cases h:k=0
 ·subst h;simp[du]
 ·simp[h]
def VJ{s:String}{g:Row->List (List Nat)}{k:Nat}(hk:k<=l.length):(mq s g l k).length<=(mq s g l l.length).length:=by
 unfold mq;split
 ·simp
 ·rename_i h;have:=OO (g:=g) hk;rw[aE ab,qB,dC,dC];omega
def amS{f:Nat}(ih:WTy f){p:Nat}{v:Value}{V:World}{ws:List (List Nat)}(h:WQ p v V ws)(l:List Row){x:Value}(eF:∀r∈l,Iw f r=true)(hx:an (Dt p v) V (.sl l) x)(hN:ws.length+(wBr "[" "]" (ka f) l).length<=1000000):Calls prog 118 #[pW p,x] V (WP p v V (ws++wBr "[" "]" (ka f) l)):=by
 obtain⟨a,cap,rfl,gF⟩:=hx.aU;have lC:l.length<=9223372036854775807:=gF;revert h eF hN hx;refine jU ?_;intro h eF hN hx;go_enter func118,ntmps118;go_wp2_with fail;go_loopg [4] l.length (fun gg s4 wr=>∃k:Nat,s4=iV k/\k+gg=l.length/\WF p v V (ws++mq "[" (ka f) l k) [] wr)
 case atStart=>exact⟨0,rfl,by omega,(h.start).cast (by simp[mq])⟩
 case round=>
  obtain⟨j,rfl,zC,H⟩:=hrel;by_cases hj:j < l.length
  ·obtain⟨row,aL⟩:∃s,l[j]?=some s:=⟨_,ck hj⟩
   have nw:=eF row (cm aL);obtain⟨d,hd⟩:=Rr.1 nw;obtain⟨k,nm,args,vd,sp,rfl⟩:=lf hd;obtain⟨g,off,rfl,hg,cs,hR,fY⟩:=hx.out.elem aL;obtain⟨c0,Ap,rfl,v0,hR⟩:=hR.aG;obtain⟨c1,U6,rfl,v1,hR⟩:=hR.aG;obtain⟨c2,T3,rfl,v2,hR⟩:=hR.aG;obtain⟨c3,Sx,rfl,v3,hR⟩:=hR.aG;obtain⟨c4,cs4,rfl,v4,hR⟩:=hR.aG;have:=hR.jO;subst this
   cases v0.fu
   cases v1.bq
   cases v3.iA
   cases v4.iA;obtain⟨q0,q1,q2,q3,q4,-⟩:=hc (o:=off+j*5) fun k _ e=>fY k _ e;refine kM ?_;intro jS sQ;have hT:=OP (s:= "[") (g:=ka f) aL;have hN':=hN.out;have cR:l≠[]:=by rintro rfl;simp at hj
   have hbl:=gq List.length (Ix (s:= "[") (e:= "]") (g:=ka f) cR);have hol:=VJ (s:= "[") (g:=ka f) (l:=l) (k:=j+1) ab;rw[j0,abi] at hbl;have Lg:ws.length+(mq "[" (ka f) l (j+1)).length+1<=1000000:=ab;rw[hT] at Lg;revert nw v2 hT Lg;refine jU ?_;intro nw v2 hT Lg;have e0:wr.cell? ⟨g,off+j*5,none⟩=_:=H.bA hg q0;replace hg:=ah hg;by_cases Px:j=0
   ·have hj3:(j:Int)=0:=by omega
    rw[aI Px] at hT Lg;go_wp2_with fail;refine bD (H.step fun v hq _=>cN hq "[" gQ) fun w2 H2=>?_;refine pq ?_;intro p0 p1 p2 p3;have p4:=H2.bA hg q4;rw[Px] at p0 p1 p2 p3 p4;simp only[xL,fS] at p0 p1 p2 p3 p4;go_wp2_with fail;refine bD (H2.step fun v hq up=>ih p v _ _ k nm args vd sp c2 hq nw (up v2) gQ) fun w3 H3=>?_;exact Dy
   ·have hj3:¬(j:Int)=0:=by omega
    rw[aE Px] at hT Lg;go_wp2_with fail;refine bD (H.step fun v hq _=>cN hq "," gQ) fun w2 H2=>?_;have p0:=H2.bA hg q0;have p1:=H2.bA hg q1;have p2:=H2.bA hg q2;have p3:=H2.bA hg q3;have p4:=H2.bA hg q4;go_wp2_with fail;refine bD (H2.step fun v hq up=>ih p v _ _ k nm args vd sp c2 hq nw (up v2) gQ) fun w3 H3=>?_;exact DC
  ·have jS:¬((j:Int) < (l.length:Int)):=by omega
   have H':=ah (H.cast (ws':=ws++mq "[" (ka f) l l.length) (by rw[show j=l.length by omega]))
   cases l with
   |nil=>go_wp2_with fail;go_end0;exact⟨rfl,H'.cast (by simp[mq,wBr])⟩
   |cons y l=>have h1:(0:Int) < (((y::l).length:Nat):Int):=wg;have hw:=ah (Ix (s:= "[") (e:= "]") (g:=ka f) (l:=y::l) ai);rw[hw.out] at hN;generalize hWW:mq "[" (ka f) (y::l) (y::l).length=WW at hN H' hw;generalize (y::l).length=LL at h1 jS lC ⊢;go_wp2_with fail;refine bD (H'.step fun v hq _=>cN hq "]" (by have:=hN.out;simp at this ⊢;omega)) fun w2 H2=>?_;replace H2:=ah H2;go_wp2_with fail;go_end0;exact⟨rfl,H2.cast wx⟩
def afs{f:Nat}{v:Bool}:ka (f+1) [k,nm,args,v,s]=(if v then[tx "detachable"] else[])++(if s then[tx "separate"] else[])++[if k==1 then tx "INTEGER" else if k==2 then tx "BOOLEAN" else nm]++wBr "[" "]" (ka f) args:=rfl
def wTy{f:Nat}(ih:WTy f):WTy (f+1):=by
 intro p v V ws k nm args vd sp x h eF hx hN;rw[afs] at hN ⊢;have hsa:=Yx eF;obtain⟨a,cap,rfl,gF⟩:=hx.aU;have S:=h.start.box (.cells #[k,nm,sV a args.length cap,vd,sp] 146 (0,0));obtain⟨AA,hA⟩:∃A,(if vd then[tx "detachable"] else[])=A:=⟨_,rfl⟩
 obtain⟨BB,hB⟩:∃A,(if sp then[tx "separate"] else[])=A:=⟨_,rfl⟩
 obtain⟨NN,hNn⟩:∃A,(if k==1 then tx "INTEGER" else if k==2 then tx "BOOLEAN" else nm)=A:=⟨_,rfl⟩
 rw[hA,hB,hNn] at hN ⊢;have hlA:AA.length<=1:=by rw[<-hA];split<;>simp
 obtain⟨-,-,-,d3,d4,-⟩:=cc (S.heap 0);revert h hsa hx S hA hB hN hNn;refine TR ?_;intro h hsa hx S hA hB hN hNn;go_enter func120,ntmps120;go_upto_if 5 with fail;go_cut [] from 6 (fun wc=>WF p v V (ws++AA) [(V,.cells #[k,nm,sV a args.length cap,vd,sp] 146 (0,0))] wc)
 case first=>
  cases vd with
  |true=>
   go_wp2_with fail;refine bD (S.step fun v hq _=>cN hq "detachable" (by have h1:=hN.out;rw[<-hA.out] at h1;simp at h1 ⊢;omega)) fun w2 H2=>?_;replace H2:=ah H2;go_wp2_with fail;go_meet
   case rel=>exact H2.cast (by rw[<-hA.out];rfl)
  |false=>
   go_wp2_with fail;go_meet
   case rel=>exact S.cast (by rw[<-hA.out];simp)
 case rest=>
 obtain⟨-,-,-,d3,d4,-⟩:=cc (hcut.heap 0);have S:=ah hcut;go_upto_if 9 with fail;go_cut [] from 10 (fun wc=>WF p v V (ws++AA++BB) [(V,.cells #[k,nm,sV a args.length cap,vd,sp] 146 (0,0))] wc)
 case first=>
  cases sp with
  |true=>
   go_wp2_with fail;refine bD (S.step fun v hq _=>cN hq "separate" (by have h1:=hN.out;rw[<-hB.out] at h1;simp at h1 ⊢;omega)) fun w2 H2=>?_;replace H2:=ah H2;go_wp2_with fail;go_meet
   case rel=>exact H2.cast (by rw[<-hB.out];rfl)
  |false=>
   go_wp2_with fail;go_meet
   case rel=>exact S.cast (by rw[<-hB.out];simp)
 case rest=>
 obtain⟨d0,d1,d2,-⟩:=cc (hcut.heap 0);have S:=ah hcut;by_cases k1:k=1
 ·go_wp2_with fail;refine bD (S.step fun v hq _=>cN hq "INTEGER" az) fun w2 H2=>?_;refine vB ?_;intro d2 w3 H3;exact⟨rfl,H3.fin.cast (by rw[<-hNn.out];rw[k1];simp)⟩
 ·have n1:¬1=k:=fun e=>k1 e.symm;by_cases k2:k=2
  ·go_wp2_with fail;refine bD (S.step fun v hq _=>cN hq "BOOLEAN" az) fun w2 H2=>?_;refine vB ?_;intro d2 w3 H3;exact⟨rfl,H3.fin.cast (by rw[<-hNn.out];rw[k2];simp)⟩
  ·have n2:¬2=k:=fun e=>k2 e.symm;go_wp2_with fail;refine bD (S.step fun v hq _=>NX hq nm az) fun w2 H2=>?_;refine vB ?_;intro d2 w3 H3;exact⟨rfl,H3.fin.cast (by rw[<-hNn.out];simp[k1,k2])⟩
def Mt:∀f,WTy f
 |0=>fun p v V ws k nm args vd sp x _ h=>by simp[Iw,By] at h
 |f+1=>wTy (Mt f)
open Go.RowKit Go.Maps Go.IntWalk
def aaI{x:Int}(h:W.heap[g]?=some (.cells #[.int .u8 x] 5 (0,0))):(convert 152 9 (sV g 1 1)).run prog W=.ok (.string (bs [x.toNat])) W:=
 run_convert_bytes_arg W 152 5 underlying152 underlying5 g 0 1 1 [x] rfl (fun i hi=>by
  have:i=0:=ab;subst this;exact aC h 0) 9 underlying9
def tf(s:List Nat):(bs s).size=s.length:=by simp[bs,ByteArray.size]
def VK:∀(f n:Nat),(tb f n).length<=f
 |0,_=>aM 0
 |f+1,n=>by
  unfold tb;split
  ·simp
  ·have:=VK f (n / 10);rw[j0,abi];omega
def aaJ{f n:Nat}:tb (f+1) n=if n < 10 then[48+n] else tb f (n / 10)++[48+n % 10]:=rfl
def aaK(a b:List Nat):(bs a)++(bs b)=bs (a++b):=by
 apply ByteArray.ext
 rw[ByteArray.data_append];simp[bs]
def Q4:∀(f:Nat),f<=100->∀(n:Nat),n<=9223372036854775807->n < 10 ^ f->∀(w:World),Calls prog 260 #[n] w fun e w'=>e=.returned (.string (bs (tb (f+1) n)))/\Kept aK w w':=by
 intro f hf;have base:∀(n:Nat),n < 10->∀(w:World),Calls prog 260 #[n] w fun e w'=>e=.returned (.string (bs [48+n]))/\Kept aK w w':=by
  intro n h3 w;have h0:¬(n:Int) < 0:=ab;have h4:(n:Int) < 10:=ab;have hc:=aaI (W:=w.alloc (.cells #[.int .u8 (48+(n:Int))] 5 (0,0))) ao;have hn:(48+(n:Int)).toNat=48+n:=ab;rw[hn] at hc;replace hc:=ah hc;go_enter func260,ntmps260;go_wp2_with (rw[hc.out];dsimp only[Result.andThen])
  first|go_ret|(refine bG (rB rfl _ _ _) rfl ?_)
  exact pB
 induction f with
 |zero=>intro n h1 h2 w;rw[aaJ,aI ab];exact base n ab w
 |succ f ih=>
 intro n h1 h2 w;rw[aaJ];by_cases h3:n < 10
 ·rw[aI h3];exact base n h3 w
 ·rw[aE h3];have h0:¬(n:Int) < 0:=ab;have h4:¬(n:Int) < 10:=ab;have ih':=ih ab (n / 10) ab (by rw[Nat.pow_succ] at h2;omega);rw[show((n / 10:Nat):Int)=(n:Int) / 10 from by omega] at ih';have hw5:IntKind.i64.wrap (48+(n:Int) % 10)=48+(n:Int) % 10:=i64_in _ ab;have hw6:IntKind.u8.wrap (48+(n:Int) % 10)=48+(n:Int) % 10:=u8_in _ ab;have hwq:IntKind.i64.wrap ((n:Int) / 10)=(n:Int) / 10:=i64_in _ ab;have dM:¬9223372036854775807 < (bs (tb (f+1) (n / 10))).size+(bs [48+n % 10]).size:=by have:=VK (f+1) (n / 10);rw[tf,tf,abi];omega
  have Qy:(48+(n:Int) % 10).toNat=48+n % 10:=ab;replace ih':=ah ih';go_enter func260,ntmps260;go_wp2_with fail;refine aY [some 12,some 13,some 14,some 15,some 16,some 17,some 18,some 19,some 20,some 21,some 2] [0,1,2,3,4,5,6,7,8,9,10] (A:=?_) (fun lb u V=>(Kept aK w V/\(lb 7=true->∃g,u 7=sV (some ⟨g,0,none⟩) 1 1/\w.heap.size<=g/\V.heap[g]?=some (.cells #[.int .u8 (48+(n:Int) % 10)] 5 (0,0))))/\VT [some (iV n),some (iV ((n:Int) / 10)),some (.string (bs (tb (f+1) (n / 10)))),some (iV n),some (iV ((n:Int) % 10)),some (iV (48+(n:Int) % 10)),some (.int .u8 (48+(n:Int) % 10)),none,some (.string (bs [48+n % 10])),some (.string (bs (tb (f+1) (n / 10)++[48+n % 10]))),some (.string (bs (tb (f+1) (n / 10)++[48+n % 10])))] lb u) af af (fun u=>?_) (fun lb u h0=>⟨⟨(Kept.refl aK w).drew,fun e=>mX⟩,VT.none rfl h0⟩) ?_ (fun lb u V hl hI=>?_);rotate_left
  ·exact bK
  ·repeat' first|apply Bm.be.cons|exact Bm.be.nil
   all_goals intro lb u V K hl hn hf hI hK
   ·exact fV
   ·exact uQ
   ·have e1:=hI.2 1 _ rfl (hn 1 af);go_simp;refine bD (ih' V) fun wA KA=>?_;dsimp only;exact hK _ _ _ ⟨⟨hI.1.1.trans' KA,fun e1=>(by obtain⟨g,e,hg,hb⟩:=hI.1.2 (by rw[jJ aj] at e1;exact e1);exact⟨g,e,hg,aJ hb KA⟩)⟩,hI.2.yes 2⟩ tX
   ·exact Kh
   ·have e3:=hI.2 3 _ rfl (hn 3 af);go_simp;exact uv
   ·exact ue
   ·exact ud
   ·have e6:=hI.2 6 _ rfl (hn 6 af);go_simp;exact hK _ _ _ ⟨⟨hI.1.1.alloc _,fun _=>⟨_,rfl,hI.1.1.size,by rw[heap_alloc,aI rfl]⟩⟩,hI.2.no 7⟩ pt
   ·obtain⟨g,eg,hg,hb⟩:=hI.1.2 (hn 7 af);have hc:=aaI hb;rw[Qy] at hc;go_simp;exact hK _ _ _ ⟨⟨hI.1.1,fun e1=>(by rw[jJ aj] at e1;exact⟨g,eg,hg,hb⟩)⟩,hI.2.yes 8⟩ (by rw[eg];try rfl)
   ·have e2:=hI.2 2 _ rfl (hn 2 af);have e8:=hI.2 8 _ rfl (hn 8 af);go_simp;exact hK _ _ _ ⟨hI.1,hI.2.yes 9⟩ (by rw[e2,e8];try simp only[aaK];try rfl)
   ·exact EW
  have zv:=hI.2 10 _ rfl (hl 10 aj);obtain⟨⟨hK,-⟩,-⟩:=hI;go_wp2_with fail
  first|go_ret|(refine bG (rB rfl _ _ _) rfl ?_)
  exact⟨gq Ending.returned zv,hK⟩
def acb:aS 7 nm=(match Bq nm with|some n=>n+1|none=>1):=rfl
def aft{s:List Nat}{m:Nat}(h:Bq s=some m):m<=5:=by unfold Bq at h;exact Ki
def fC(k:Int)(nm:List Nat)(n:Int)(x:Value)(hs:bW nm)(w:World):Calls prog 261 #[.agg #[iV k,.string (bs nm),iV n,x]] w fun e w'=>e=.returned (iV (aS k nm:Nat))/\Kept aK w w':=by
 have K0:Kept aK w (w.alloc (.cells #[k,nm,n,x] 181 (0,0))):=(Kept.refl aK w).alloc _;have hb:(w.alloc (.cells #[k,nm,n,x] 181 (0,0))).heap[w.heap.size]?=some (.cells #[k,nm,n,x] 181 (0,0)):=ao;have b0:=bc hb 0;by_cases k8:k=8
 ·subst k8;exact ua
 by_cases k9:k=9
 ·subst k9;exact ua
 by_cases k7:k=7
 rotate_left
 ·have hl:aS k nm=8:=by unfold aS;simp[k8,k9,k7]
  rw[hl];have h89:(k==8||k==9)=false:=by simp[k8,k9]
  exact ua
 subst k7;rw[acb];obtain⟨LV,hLV⟩:∃y,(match Bq nm with|some n=>n+1|none=>1)=y:=⟨_,rfl⟩
 rw[hLV];revert hs K0 hb hLV;refine jU ?_;intro hs K0 hb hLV;go_enter func261,ntmps261;go_wp2_with fail;go_loopg [3] 5 (fun gg s3 wr=>∃m:Nat,s3=iV ((m:Int)+1)/\m+gg=6/\1<=m/\Kept aK w wr/\wr.heap[w.heap.size]?=some (.cells #[iV 7,nm,n,x] 181 (0,0))/\∀j,1<=j->j < m->Bq nm≠some j)
 case atStart=>exact⟨1,rfl,rfl,by omega,K0,hb,fun j h1 h2=>by omega⟩
 case round=>
  obtain⟨m,rfl,hmg,hm1,hK,Il,hj⟩:=hrel;by_cases hm:m<=5
  ·have cg:(m:Int)+1 < 7:=by omega
   have fy:(1:Int)<=(m:Int):=ab;have Vr:=fun s h=>(OJ hm1 hm s h).2;have lQ:(opsL m).contains nm=true↔Bq nm=some m:=by rw[MK];exact⟨fun h=>(OJ hm1 hm _ h).1,fun h=>Vl hm1 h⟩
   obtain⟨B,hB⟩:∃B,(opsL m).contains nm=B:=⟨_,rfl⟩
   rw[hB] at lQ;have b1:=bc Il 1;revert hK Il hj Vr lQ hB;refine LX ?_;intro hK Il hj Vr lQ hB;go_wp2_with fail;refine aY [some 19,some 20,some 21,some 22,some 23] [0,1,2,3,4] (A:=?_) (fun lb u V=>(Kept aK wr V/\(lb 1=true->an (fun _=>True) V (.sl (strs (opsL m))) (u 1)))/\VT [some (iV ((m:Int)+1)),none,some (.pointer (some ⟨w,1,none⟩)),some (.string (bs nm)),some (.bool B)] lb u) af af (fun u=>?_) (fun lb u h0=>⟨⟨(Kept.refl aK wr).drew,fun e=>(by rw[h0 1 aj] at e;cases e)⟩,VT.none rfl h0⟩) ?_ (fun lb u V hl hI=>?_);rotate_left
   ·exact bK
   ·repeat' first|apply Bm.be.cons|exact Bm.be.nil
    all_goals intro lb u V K hl hn hf hI hK
    ·exact fV
    ·have e0:=hI.2 0 _ rfl (hn 0 af);go_simp;refine(It hm1 hm V).mono ?_;rintro e wA ⟨v,rfl,hv,KA⟩;dsimp only;exact hK _ _ _ ⟨⟨hI.1.1.trans' KA,fun e1=>hv.mono fun _ _ _=>bw⟩,hI.2.no 1⟩ mI
    ·exact oq
    ·have e2:=hI.2 2 _ rfl (hn 2 af);have d1:=hI.1.1.aq b1 (fun e=>e);exact pv
    ·have e3:=hI.2 3 _ rfl (hn 3 af);have hv:=hI.1.2 (hn 1 af);go_simp;refine(Bh hv Vr nm hs).mono ?_;rintro e wA ⟨rfl,rfl⟩;dsimp only;rw[hB.out];exact uv
   have e4:=hI.2 4 _ rfl (hl 4 aj);obtain⟨⟨gu,-⟩,-⟩:=hI;have jy:=aJ Il gu;have xq:=hK.trans' gu;rw[e4]
   cases B with
   |true=>
    have h1:Bq nm=some m:=HP;go_wp2_with fail
    first|go_ret|(refine bG (rB rfl _ _ _) rfl ?_)
    refine⟨?_,xq⟩;have h2:=hLV.out;rw[h1] at h2;rw[<-h2];rfl
   |false=>
    have h1:Bq nm≠some m:=HP;revert jy xq h1;refine jk ?_;intro jy xq h1;go_wp2_with fail;go_roundg (gk - 1)
    case measure=>omega
    case rel=>exact⟨m+1,by congr 1,by omega,by omega,xq,jy,fun j j1 j2 e=>by
     by_cases hjm:j=m
     ·subst hjm;exact h1.out e
     ·exact hj j j1 ab e⟩
  ·have cg:¬(m:Int)+1 < 7:=by omega
   have hl:LV=1:=by
    rw[<-hLV.out]
    cases hq:Bq nm with
    |none=>rfl
    |some q=>
     have:=aft hq;rcases Nat.eq_zero_or_pos q with h|h
     ·subst h;rfl
     ·exact absurd hq (hj q h ab)
   replace hK:=ah hK;go_wp2_with fail
   first|go_ret|(refine bG (rB rfl _ _ _) rfl ?_)
   exact⟨by first|rfl|(rw[hl];rfl),hK⟩
def lZ:Nat->Row->Prop
 |0,_=>False
 |g+1,r=>∃k nm n kids,r=[.int k,.str nm,.int n,.sl kids]/\bW nm/\(1<=k/\k<=10)/\(k=1->0<=n/\n<=9223372036854775807)/\∀x∈kids,lZ g x
def aaL(h:lZ (g+1) [k,nm,n,kids]):bW nm/\(1<=k/\k<=10)/\(k=1->0<=n/\n<=9223372036854775807)/\∀x∈kids,lZ g x:=by obtain⟨k',zt,n',Uz,e,h⟩:=h;simp only[IZ,T.int.injEq,T.str.injEq,T.sl.injEq,xO] at e;obtain⟨rfl,rfl,rfl,rfl⟩:=e;exact h
def WR(g:Nat):Prop:=∀(f:Nat),2*g<=f->∀(p:Nat) (v:Value) (V:World) (ws:List (List Nat)) (k:Int) (nm:List Nat) (n:Int) (kids:List Row) (x:Value) (lv:Nat),WQ p v V ws->lZ g [k,nm,n,kids]->an (Dt p v) V (.sl kids) x->ws.length+(bE f [k,nm,n,kids] lv).length<=1000000->Calls prog 206 #[pW p,.agg #[k,nm,n,x],iV lv] V (WP p v V (ws++bE f [k,nm,n,kids] lv))
def vx{a:Option Addr}{c:Nat}{j:Nat}(hx:an S V (.sl kids) (sV a kids.length c))(hj:kids[j]?=some x)(bL:lZ g x):∃b off k nm n l y,a=some ⟨b,off,none⟩/\S b/\x=[.int k,.str nm,.int n,.sl l]/\V.cell? ⟨b,off+j*4,none⟩=some (iV k)/\V.cell? ⟨b,off+j*4+1,none⟩=some (.string (bs nm))/\V.cell? ⟨b,off+j*4+2,none⟩=some (iV n)/\V.cell? ⟨b,off+j*4+3,none⟩=some y/\an S V (.sl l) y:=by
 cases g with
 |zero=>exact bL.elim
 |succ g=>
 obtain⟨k,nm,n,l,rfl,-⟩:=bL;obtain⟨b,off,rfl,hb,cs,hR,fY⟩:=hx.elem hj;obtain⟨c0,Ap,rfl,v0,hR⟩:=hR.aG;obtain⟨c1,U6,rfl,v1,hR⟩:=hR.aG;obtain⟨c2,T3,rfl,v2,hR⟩:=hR.aG;obtain⟨c3,Sx,rfl,v3,hR⟩:=hR.aG;have:=hR.jO;subst this
 cases v0.fu
 cases v1.bq
 cases v2.fu;exact⟨b,off,k,nm,n,l,c3,rfl,hb,rfl,fY 0 _ rfl,fY 1 _ rfl,fY 2 _ rfl,fY 3 _ rfl,v3⟩
def wFr(f:Nat)(k:Int)(nm:List Nat)(kids:List Row):List (List Nat):=match kids with
 |[x]=>if k==8 then nm::bE f x 7 else if k==9 then tx "old"::bE f x 7 else tx "attached"::bE f x 8++[tx "as",nm]
 |_=>[[]]
def Yy(ih:WR g){f:Nat}(hf:2*g<=f){p:Nat}{v:Value}{V:World}{ws:List (List Nat)}(h:WQ p v V ws)(k:Int)(nm:List Nat)(n:Int)(kids:List Row){x:Value}(bL:∀x∈kids,lZ g x)(hx:an (Dt p v) V (.sl kids) x)(hN:ws.length+(wFr f k nm kids).length<=1000000):Calls prog 262 #[pW p,.agg #[k,nm,n,x]] V (WP p v V (ws++wFr f k nm kids)):=by
 revert x hx;change ∀x,_;refine ei ?_;intro a cap gF hx lC;have S:=h.start.box (.cells #[k,nm,n,sV a kids.length cap] 181 (0,0));obtain⟨d0,d1,-,d3,-⟩:=cc (S.heap 0)
 match kids,bL,hx,hN,lC,S,d3 with
 |[],bL,hx,hN,lC,S,d3=>exact Dv
 |y::z::l,bL,hx,hN,lC,S,d3=>
  have h1:¬(((y::z::l).length:Nat):Int)=1:=by rw[dC,dC];omega
  have hw:wFr f k nm (y::z::l)=[[]]:=rfl;rw[hw] at hN ⊢;generalize (y::z::l).length=LL at h1 lC S d3 ⊢;exact Dv
 |[y],bL,hx,hN,lC,S,d3=>
  have hoy:=bL y ai;obtain⟨b,off,k',zt,n',l',y',rfl,hg,rfl,q0,q1,q2,q3,vy⟩:=vx (j:=0) hx rfl hoy;simp only[xL,fS] at q0 q1 q2 q3;revert hg hN hoy vy;refine jU ?_;intro hg hN hoy vy;by_cases k8:k=8
  ·subst k8;have hw:wFr f 8 nm [[k',zt,n',l']]=nm::bE f [k',zt,n',l'] 7:=by simp[wFr]
   rw[hw] at hN ⊢;replace S:=ah S;go_enter func262,ntmps262;go_wp2_with fail;refine bD (S.step fun v hq _=>NX hq nm az) fun w2 H2=>?_;exact De
  have n8:¬8=k:=fun e=>k8 e.symm;by_cases k9:k=9
  ·subst k9;have hw:wFr f 9 nm [[k',zt,n',l']]=tx "old"::bE f [k',zt,n',l'] 7:=by simp[wFr]
   rw[hw] at hN ⊢;replace S:=ah S;go_enter func262,ntmps262;go_wp2_with fail;refine bD (S.step fun v hq _=>cN hq "old" az) fun w2 H2=>?_;exact De
  have n9:¬9=k:=fun e=>k9 e.symm;have hw:wFr f k nm [[k',zt,n',l']]=tx "attached"::bE f [k',zt,n',l'] 8++[tx "as",nm]:=by simp[wFr,k8,k9]
  rw[hw] at hN ⊢;replace S:=ah S;go_enter func262,ntmps262;go_wp2_with fail;refine bD (S.step fun v hq _=>cN hq "attached" az) fun w2 H2=>?_;obtain⟨-,d1,-,d3,-⟩:=cc (H2.heap 0);refine pq ?_;intro p0 p1 p2 p3;go_wp2_with fail;refine bD (H2.step fun v hq up=>ih f hf p v _ _ k' zt n' l' y' 8 hq hoy (up vy) az) fun w3 H3=>?_;have d1:=bc (H3.heap 0) 1;go_wp2_with fail;refine bD (H3.step fun v hq up=>cN hq "as" az) fun w4 H4=>?_;have d1:=bc (H4.heap 0) 1;go_wp2_with fail;refine bD (H4.step fun v hq up=>NX hq nm az) fun w5 H5=>?_;replace H5:=ah H5;go_wp2_with fail;go_end0;exact⟨rfl,H5.fin.cast ai⟩
def VL(k:Int)(nm:List Nat):1<=aS k nm:=by
 unfold aS;repeat' split
 all_goals omega
def eE(f:Nat)(k:Int)(nm:List Nat)(n:Int)(kids:List Row):List (List Nat):=
  if k==1 then[tb 20 n.toNat]
  else if k==2 then[if n==1 then tx "True" else tx "False"]
  else if k==3 then[tx "Void"]
  else if k==4 then[tx "Current"]
  else if k==5 then[tx "Result"]
  else if k==6 then(if n==1 then(match kids with|x::_=>bE f x 8++[tx "."]|[]=>[]) else[])++[nm]++wBr "(" ")" (fun x=>bE f x 1) (if n==1 then kids.tail else kids)
  else if k==7 then match kids with
   |[a,b]=>bE f a (if aS k nm==1 then 2 else if aS k nm==4 then 5 else aS k nm)++[nm]++bE f b (if aS k nm==1 then 1 else aS k nm+1)
   |_=>[[]]
  else wFr f k nm kids
def VM{f:Nat}:bE (f+1) [k,nm,n,kids] lv=if aS k nm < lv then tx "("::bE f [k,nm,n,kids] 1++[tx ")"] else eE f k nm n kids:=by
 conv=>lhs;unfold bE
 simp only;unfold eE wBr wFr
 match kids with
 |[]=>rfl
 |[_]=>rfl
 |[_,_]=>rfl
 |_::_::_::_=>rfl
def OQ{f:Nat}(h:¬aS k nm < lv):bE (f+1) [k,nm,n,kids] lv=eE f k nm n kids:=by rw[VM,aE h]
def VN{f:Nat}(h:aS k nm < lv):bE (f+1) [k,nm,n,kids] lv=tx "("::bE f [k,nm,n,kids] 1++[tx ")"]:=by rw[VM,aI h]
def alH{own:Nat}{a:Value}{b:Value}{w:World}{Q:Ending->World->Prop}(h:Calls prog 206 #[a,b,iV ((own+1:Nat):Int)] w Q):Calls prog 206 #[a,b,iV ((own:Int)+1)] w Q:=h
def wE3(ih:WR g){f:Nat}(hf:2*g<=f){p:Nat}{v:Value}{V:World}{ws:List (List Nat)}(h:WQ p v V ws)(nm:List Nat)(n:Int)(kids:List Row){x:Value}(lv:Nat)(IU:¬aS 3 nm < lv)(hs:bW nm)(bL:∀x∈kids,lZ g x)(hx:an (Dt p v) V (.sl kids) x)(hN:ws.length+(eE f 3 nm n kids).length<=1000000):Calls prog 206 #[pW p,.agg #[iV 3,nm,n,x],iV lv] V (WP p v V (ws++eE f 3 nm n kids)):=by
 revert x hx;change ∀x,_;refine ei ?_;intro a cap gF hx lC;have S:=h.start.box (.cells #[iV 3,nm,n,sV a kids.length cap] 181 (0,0));obtain⟨d0,d1,d2,d3,-⟩:=cc (S.heap 0);have qW:¬((aS 3 nm:Nat):Int) < (lv:Int):=ab;obtain⟨own,ep⟩:∃o,aS 3 nm=o:=⟨_,rfl⟩
 have gD:=fun w=>fC 3 nm n (sV a kids.length cap) hs w;rw[ep] at qW gD;replace S:=ah S;replace hN:=ah hN;replace hx:=ah hx;replace bL:=ah bL;replace gD:=ah gD;replace ep:=ah ep;replace ih:=ah ih;go_enter func206,ntmps206;go_wp2_with fail;refine bD (gD _) fun w2 P=>?_;have S2:=S.no P;obtain⟨d0,d1,d2,d3,-⟩:=cc (S2.heap 0);replace S2:=ah S2;go_wp2_with fail;refine bD (gD _) fun w3 P=>?_;have S3:=S2.no P;obtain⟨d0,d1,d2,d3,-⟩:=cc (S3.heap 0);replace S3:=ah S3;go_wp2_with fail;refine bD (S3.step fun v hq _=>cN hq "Void" hN) fun w4 S4=>?_;exact iO
def wE4(ih:WR g){f:Nat}(hf:2*g<=f){p:Nat}{v:Value}{V:World}{ws:List (List Nat)}(h:WQ p v V ws)(nm:List Nat)(n:Int)(kids:List Row){x:Value}(lv:Nat)(IU:¬aS 4 nm < lv)(hs:bW nm)(bL:∀x∈kids,lZ g x)(hx:an (Dt p v) V (.sl kids) x)(hN:ws.length+(eE f 4 nm n kids).length<=1000000):Calls prog 206 #[pW p,.agg #[iV 4,nm,n,x],iV lv] V (WP p v V (ws++eE f 4 nm n kids)):=by
 revert x hx;change ∀x,_;refine ei ?_;intro a cap gF hx lC;have S:=h.start.box (.cells #[iV 4,nm,n,sV a kids.length cap] 181 (0,0));obtain⟨d0,d1,d2,d3,-⟩:=cc (S.heap 0);have qW:¬((aS 4 nm:Nat):Int) < (lv:Int):=ab;obtain⟨own,ep⟩:∃o,aS 4 nm=o:=⟨_,rfl⟩
 have gD:=fun w=>fC 4 nm n (sV a kids.length cap) hs w;rw[ep] at qW gD;replace S:=ah S;replace hN:=ah hN;replace hx:=ah hx;replace bL:=ah bL;replace gD:=ah gD;replace ep:=ah ep;replace ih:=ah ih;go_enter func206,ntmps206;go_wp2_with fail;refine bD (gD _) fun w2 P=>?_;have S2:=S.no P;obtain⟨d0,d1,d2,d3,-⟩:=cc (S2.heap 0);replace S2:=ah S2;go_wp2_with fail;refine bD (gD _) fun w3 P=>?_;have S3:=S2.no P;obtain⟨d0,d1,d2,d3,-⟩:=cc (S3.heap 0);replace S3:=ah S3;go_wp2_with fail;refine bD (S3.step fun v hq _=>cN hq "Current" hN) fun w4 S4=>?_;exact iO
def wE5(ih:WR g){f:Nat}(hf:2*g<=f){p:Nat}{v:Value}{V:World}{ws:List (List Nat)}(h:WQ p v V ws)(nm:List Nat)(n:Int)(kids:List Row){x:Value}(lv:Nat)(IU:¬aS 5 nm < lv)(hs:bW nm)(bL:∀x∈kids,lZ g x)(hx:an (Dt p v) V (.sl kids) x)(hN:ws.length+(eE f 5 nm n kids).length<=1000000):Calls prog 206 #[pW p,.agg #[iV 5,nm,n,x],iV lv] V (WP p v V (ws++eE f 5 nm n kids)):=by
 revert x hx;change ∀x,_;refine ei ?_;intro a cap gF hx lC;have S:=h.start.box (.cells #[iV 5,nm,n,sV a kids.length cap] 181 (0,0));obtain⟨d0,d1,d2,d3,-⟩:=cc (S.heap 0);have qW:¬((aS 5 nm:Nat):Int) < (lv:Int):=ab;obtain⟨own,ep⟩:∃o,aS 5 nm=o:=⟨_,rfl⟩
 have gD:=fun w=>fC 5 nm n (sV a kids.length cap) hs w;rw[ep] at qW gD;replace S:=ah S;replace hN:=ah hN;replace hx:=ah hx;replace bL:=ah bL;replace gD:=ah gD;replace ep:=ah ep;replace ih:=ah ih;go_enter func206,ntmps206;go_wp2_with fail;refine bD (gD _) fun w2 P=>?_;have S2:=S.no P;obtain⟨d0,d1,d2,d3,-⟩:=cc (S2.heap 0);replace S2:=ah S2;go_wp2_with fail;refine bD (gD _) fun w3 P=>?_;have S3:=S2.no P;obtain⟨d0,d1,d2,d3,-⟩:=cc (S3.heap 0);replace S3:=ah S3;go_wp2_with fail;refine bD (S3.step fun v hq _=>cN hq "Result" hN) fun w4 S4=>?_;exact iO
def wE1(ih:WR g){f:Nat}(hf:2*g<=f){p:Nat}{v:Value}{V:World}{ws:List (List Nat)}(h:WQ p v V ws)(nm:List Nat)(n:Int)(kids:List Row){x:Value}(lv:Nat)(IU:¬aS 1 nm < lv)(hs:bW nm)(hn:0<=n/\n<=9223372036854775807)(bL:∀x∈kids,lZ g x)(hx:an (Dt p v) V (.sl kids) x)(hN:ws.length+(eE f 1 nm n kids).length<=1000000):Calls prog 206 #[pW p,.agg #[iV 1,nm,n,x],iV lv] V (WP p v V (ws++eE f 1 nm n kids)):=by
 revert x hx;change ∀x,_;refine ei ?_;intro a cap gF hx lC;have S:=h.start.box (.cells #[iV 1,nm,n,sV a kids.length cap] 181 (0,0));obtain⟨d0,d1,d2,d3,-⟩:=cc (S.heap 0);have qW:¬((aS 1 nm:Nat):Int) < (lv:Int):=ab;obtain⟨own,ep⟩:∃o,aS 1 nm=o:=⟨_,rfl⟩
 have gD:=fun w=>fC 1 nm n (sV a kids.length cap) hs w;rw[ep] at qW gD;replace S:=ah S;replace hN:=ah hN;replace hx:=ah hx;replace bL:=ah bL;replace gD:=ah gD;replace ep:=ah ep;replace ih:=ah ih;go_enter func206,ntmps206;go_wp2_with fail;refine bD (gD _) fun w2 P=>?_;have S2:=S.no P;obtain⟨d0,d1,d2,d3,-⟩:=cc (S2.heap 0);replace S2:=ah S2;go_wp2_with fail;refine bD (gD _) fun w3 P=>?_;have S3:=S2.no P;obtain⟨d0,d1,d2,d3,-⟩:=cc (S3.heap 0);have hdg:=Q4 19 ab n.toNat ab ab;rw[show((n.toNat:Nat):Int)=n from by omega] at hdg;revert S3 hdg;refine ct ?_;intro S3 hdg;go_wp2_with fail;refine bD (hdg _) fun w4 P=>?_;have S4:=ah (S3.no P);go_wp2_with fail;refine bD (S4.step fun v hq _=>NX hq (tb 20 n.toNat) hN) fun w5 S5=>?_;replace S5:=ah S5;go_wp2_with fail;go_end0;exact⟨rfl,S5.fin.cast rfl⟩
def wE2(ih:WR g){f:Nat}(hf:2*g<=f){p:Nat}{v:Value}{V:World}{ws:List (List Nat)}(h:WQ p v V ws)(nm:List Nat)(n:Int)(kids:List Row){x:Value}(lv:Nat)(IU:¬aS 2 nm < lv)(hs:bW nm)(bL:∀x∈kids,lZ g x)(hx:an (Dt p v) V (.sl kids) x)(hN:ws.length+(eE f 2 nm n kids).length<=1000000):Calls prog 206 #[pW p,.agg #[iV 2,nm,n,x],iV lv] V (WP p v V (ws++eE f 2 nm n kids)):=by
 revert x hx;change ∀x,_;refine ei ?_;intro a cap gF hx lC;have S:=h.start.box (.cells #[iV 2,nm,n,sV a kids.length cap] 181 (0,0));obtain⟨d0,d1,d2,d3,-⟩:=cc (S.heap 0);have qW:¬((aS 2 nm:Nat):Int) < (lv:Int):=ab;obtain⟨own,ep⟩:∃o,aS 2 nm=o:=⟨_,rfl⟩
 have gD:=fun w=>fC 2 nm n (sV a kids.length cap) hs w;rw[ep] at qW gD;replace S:=ah S;replace hN:=ah hN;replace hx:=ah hx;replace bL:=ah bL;replace gD:=ah gD;replace ep:=ah ep;replace ih:=ah ih;go_enter func206,ntmps206;go_wp2_with fail;refine bD (gD _) fun w2 P=>?_;have S2:=S.no P;obtain⟨d0,d1,d2,d3,-⟩:=cc (S2.heap 0);replace S2:=ah S2;go_wp2_with fail;refine bD (gD _) fun w3 P=>?_;have S3:=S2.no P;obtain⟨d0,d1,d2,d3,-⟩:=cc (S3.heap 0);replace S3:=ah S3;by_cases hn:n=1
 ·go_wp2_with fail;refine bD (S3.step fun v hq _=>cN hq "True" hN) fun w4 S4=>?_;replace S4:=ah S4;go_wp2_with fail;go_end0;exact⟨rfl,S4.fin.cast (by rw[hn];rfl)⟩
 ·have Pt:¬1=n:=fun e=>hn e.symm;go_wp2_with fail;refine bD (S3.step fun v hq _=>cN hq "False" hN) fun w4 S4=>?_;replace S4:=ah S4;go_wp2_with fail;go_end0;exact⟨rfl,S4.fin.cast (by simp[eE,hn])⟩
def wE8(ih:WR g){f:Nat}(hf:2*g<=f){p:Nat}{v:Value}{V:World}{ws:List (List Nat)}(h:WQ p v V ws)(nm:List Nat)(n:Int)(kids:List Row){x:Value}(lv:Nat)(IU:¬aS 8 nm < lv)(hs:bW nm)(bL:∀x∈kids,lZ g x)(hx:an (Dt p v) V (.sl kids) x)(hN:ws.length+(eE f 8 nm n kids).length<=1000000):Calls prog 206 #[pW p,.agg #[iV 8,nm,n,x],iV lv] V (WP p v V (ws++eE f 8 nm n kids)):=by
 revert x hx;change ∀x,_;refine ei ?_;intro a cap gF hx lC;have S:=h.start.box (.cells #[iV 8,nm,n,sV a kids.length cap] 181 (0,0));have Pw:eE f 8 nm n kids=wFr f 8 nm kids:=rfl;rw[Pw] at hN ⊢;obtain⟨d0,d1,d2,d3,-⟩:=cc (S.heap 0);have qW:¬((aS 8 nm:Nat):Int) < (lv:Int):=ab;obtain⟨own,ep⟩:∃o,aS 8 nm=o:=⟨_,rfl⟩
 have gD:=fun w=>fC 8 nm n (sV a kids.length cap) hs w;rw[ep] at qW gD;replace S:=ah S;replace hN:=ah hN;replace hx:=ah hx;replace bL:=ah bL;replace gD:=ah gD;replace ep:=ah ep;replace ih:=ah ih;go_enter func206,ntmps206;go_wp2_with fail;refine bD (gD _) fun w2 P=>?_;have S2:=S.no P;obtain⟨d0,d1,d2,d3,-⟩:=cc (S2.heap 0);replace S2:=ah S2;go_wp2_with fail;refine bD (gD _) fun w3 P=>?_;have S3:=S2.no P;obtain⟨d0,d1,d2,d3,-⟩:=cc (S3.heap 0);replace S3:=ah S3;go_wp2_with fail;refine bD (S3.step fun v hq up=>Yy ih hf hq 8 nm n kids bL (up hx) hN) fun w4 S4=>?_;exact iO
def wE9(ih:WR g){f:Nat}(hf:2*g<=f){p:Nat}{v:Value}{V:World}{ws:List (List Nat)}(h:WQ p v V ws)(nm:List Nat)(n:Int)(kids:List Row){x:Value}(lv:Nat)(IU:¬aS 9 nm < lv)(hs:bW nm)(bL:∀x∈kids,lZ g x)(hx:an (Dt p v) V (.sl kids) x)(hN:ws.length+(eE f 9 nm n kids).length<=1000000):Calls prog 206 #[pW p,.agg #[iV 9,nm,n,x],iV lv] V (WP p v V (ws++eE f 9 nm n kids)):=by
 revert x hx;change ∀x,_;refine ei ?_;intro a cap gF hx lC;have S:=h.start.box (.cells #[iV 9,nm,n,sV a kids.length cap] 181 (0,0));have Pw:eE f 9 nm n kids=wFr f 9 nm kids:=rfl;rw[Pw] at hN ⊢;obtain⟨d0,d1,d2,d3,-⟩:=cc (S.heap 0);have qW:¬((aS 9 nm:Nat):Int) < (lv:Int):=ab;obtain⟨own,ep⟩:∃o,aS 9 nm=o:=⟨_,rfl⟩
 have gD:=fun w=>fC 9 nm n (sV a kids.length cap) hs w;rw[ep] at qW gD;replace S:=ah S;replace hN:=ah hN;replace hx:=ah hx;replace bL:=ah bL;replace gD:=ah gD;replace ep:=ah ep;replace ih:=ah ih;go_enter func206,ntmps206;go_wp2_with fail;refine bD (gD _) fun w2 P=>?_;have S2:=S.no P;obtain⟨d0,d1,d2,d3,-⟩:=cc (S2.heap 0);replace S2:=ah S2;go_wp2_with fail;refine bD (gD _) fun w3 P=>?_;have S3:=S2.no P;obtain⟨d0,d1,d2,d3,-⟩:=cc (S3.heap 0);replace S3:=ah S3;go_wp2_with fail;refine bD (S3.step fun v hq up=>Yy ih hf hq 9 nm n kids bL (up hx) hN) fun w4 S4=>?_;exact iO
def aqu(ih:WR g){f:Nat}(hf:2*g<=f){p:Nat}{v:Value}{V:World}{ws:List (List Nat)}(h:WQ p v V ws)(nm:List Nat)(n:Int)(kids:List Row){x:Value}(lv:Nat)(IU:¬aS 10 nm < lv)(hs:bW nm)(bL:∀x∈kids,lZ g x)(hx:an (Dt p v) V (.sl kids) x)(hN:ws.length+(eE f 10 nm n kids).length<=1000000):Calls prog 206 #[pW p,.agg #[iV 10,nm,n,x],iV lv] V (WP p v V (ws++eE f 10 nm n kids)):=by
 revert x hx;change ∀x,_;refine ei ?_;intro a cap gF hx lC;have S:=h.start.box (.cells #[iV 10,nm,n,sV a kids.length cap] 181 (0,0));have Pw:eE f 10 nm n kids=wFr f 10 nm kids:=rfl;rw[Pw] at hN ⊢;obtain⟨d0,d1,d2,d3,-⟩:=cc (S.heap 0);have qW:¬((aS 10 nm:Nat):Int) < (lv:Int):=ab;obtain⟨own,ep⟩:∃o,aS 10 nm=o:=⟨_,rfl⟩
 have gD:=fun w=>fC 10 nm n (sV a kids.length cap) hs w;rw[ep] at qW gD;replace S:=ah S;replace hN:=ah hN;replace hx:=ah hx;replace bL:=ah bL;replace gD:=ah gD;replace ep:=ah ep;replace ih:=ah ih;go_enter func206,ntmps206;go_wp2_with fail;refine bD (gD _) fun w2 P=>?_;have S2:=S.no P;obtain⟨d0,d1,d2,d3,-⟩:=cc (S2.heap 0);replace S2:=ah S2;go_wp2_with fail;refine bD (gD _) fun w3 P=>?_;have S3:=S2.no P;obtain⟨d0,d1,d2,d3,-⟩:=cc (S3.heap 0);replace S3:=ah S3;go_wp2_with fail;refine bD (S3.step fun v hq up=>Yy ih hf hq 10 nm n kids bL (up hx) hN) fun w4 S4=>?_;exact iO
def alI(ih:WR g){f:Nat}(hf:2*g<=f){p:Nat}{v:Value}{V:World}{ws:List (List Nat)}(h:WQ p v V ws)(nm:List Nat)(n:Int)(kids:List Row){x:Value}(lv:Nat)(IU:¬aS 7 nm < lv)(hs:bW nm)(jF:kids.length≠2)(bL:∀x∈kids,lZ g x)(hx:an (Dt p v) V (.sl kids) x)(hN:ws.length+(eE f 7 nm n kids).length<=1000000):Calls prog 206 #[pW p,.agg #[iV 7,nm,n,x],iV lv] V (WP p v V (ws++eE f 7 nm n kids)):=by
 revert x hx;change ∀x,_;refine ei ?_;intro a cap gF hx lC;have S:=h.start.box (.cells #[iV 7,nm,n,sV a kids.length cap] 181 (0,0));have Pw:eE f 7 nm n kids=[[]]:=by
  match kids,jF with
  |[],_=>rfl
  |[_],_=>rfl
  |_::_::_::_,_=>rfl
  |[_,_],h=>exact absurd rfl h
 rw[Pw] at hN ⊢;have hlk:¬((kids.length:Nat):Int)=2:=ab;obtain⟨d0,d1,d2,d3,-⟩:=cc (S.heap 0);have qW:¬((aS 7 nm:Nat):Int) < (lv:Int):=ab;obtain⟨own,ep⟩:∃o,aS 7 nm=o:=⟨_,rfl⟩
 have gD:=fun w=>fC 7 nm n (sV a kids.length cap) hs w;rw[ep] at qW gD;replace S:=ah S;replace hN:=ah hN;replace hx:=ah hx;replace bL:=ah bL;replace gD:=ah gD;replace ep:=ah ep;replace ih:=ah ih;go_enter func206,ntmps206;go_wp2_with fail;refine bD (gD _) fun w2 P=>?_;have S2:=S.no P;obtain⟨d0,d1,d2,d3,-⟩:=cc (S2.heap 0);replace S2:=ah S2;go_wp2_with fail;refine bD (gD _) fun w3 P=>?_;have S3:=S2.no P;obtain⟨d0,d1,d2,d3,-⟩:=cc (S3.heap 0);replace S3:=ah S3;go_wp2_with fail;refine bD (S3.step fun v hq up=>cN hq "" hN) fun w4 S4=>?_;exact iO
def Yz(k:Int)(nm:List Nat):aS k nm<=8:=by
 unfold aS;split
 ·omega
 ·split
  ·omega
  ·cases h:Bq nm with
   |none=>simp
   |some m=>have:=aft h;simp;omega
def wE7(ih:WR g){f:Nat}(hf:2*g<=f){p:Nat}{v:Value}{V:World}{ws:List (List Nat)}(h:WQ p v V ws)(nm:List Nat)(n:Int)(x0 x1:Row){x:Value}(lv:Nat)(IU:¬aS 7 nm < lv)(hs:bW nm)(bL:∀x∈[x0,x1],lZ g x)(hx:an (Dt p v) V (.sl [x0,x1]) x)(hN:ws.length+(eE f 7 nm n [x0,x1]).length<=1000000):Calls prog 206 #[pW p,.agg #[iV 7,nm,n,x],iV lv] V (WP p v V (ws++eE f 7 nm n [x0,x1])):=by
 obtain⟨a,cap,rfl,gF⟩:=hx.aU;have lC:2<=9223372036854775807:=gF;have S:=h.start.box (.cells #[iV 7,nm,n,sV a 2 cap] 181 (0,0));obtain⟨b,off,k1,xu,n1,l1,y1,rfl,hg,rfl,p0,p1,p2,p3,v1⟩:=vx (j:=0) hx rfl (bL _ (eu ..));obtain⟨_,_,k2,nm2,n2,l2,y2,e,-,rfl,r0,r1,r2,r3,v2⟩:=vx (j:=1) hx rfl (bL _ (eC _ (eu ..)));simp only[wY,I0,xO] at e;obtain⟨rfl,rfl⟩:=e;have qI:=bL _ (eu ..);have ho2:=bL _ (eC _ (eu ..));simp only[xL,fS,Nat.one_mul,xP,Nat.reduceAdd] at p0 p1 p2 p3 r0 r1 r2 r3;revert hg v1 v2 qI ho2;refine nx ?_;intro hg v1 v2 qI ho2;obtain⟨d0,d1,d2,d3,-⟩:=cc (S.heap 0);have qW:¬((aS 7 nm:Nat):Int) < (lv:Int):=ab;obtain⟨own,ep⟩:∃o,aS 7 nm=o:=⟨_,rfl⟩
 have gD:=fun w=>fC 7 nm n (sV (some ⟨b,off,none⟩) 2 cap) hs w;rw[ep] at qW gD;revert ih S hN ep gD;refine nx ?_;intro ih S hN ep gD;go_enter func206,ntmps206;go_wp2_with fail;refine bD (gD _) fun w2 P=>?_;have S2:=S.no P;obtain⟨d0,d1,d2,d3,-⟩:=cc (S2.heap 0);replace S2:=ah S2;go_wp2_with fail;refine bD (gD _) fun w3 P=>?_;have S3:=S2.no P;obtain⟨d0,d1,d2,d3,-⟩:=cc (S3.heap 0);have P0:=S3.bA hg p0;have P1:=S3.bA hg p1;have P2:=S3.bA hg p2;have P3:=S3.bA hg p3;replace S3:=ah S3;by_cases o1:own=1
 ·have o1':((own:Nat):Int)=1:=by omega
  have Pw:eE f 7 nm n [[k1,xu,n1,l1],[k2,nm2,n2,l2]]=bE f [k1,xu,n1,l1] 2++[nm]++bE f [k2,nm2,n2,l2] 1:=by refine DA ?_;simp[o1]
  rw[Pw] at hN;replace Pw:=ah Pw;go_wp2_with fail;refine bD (S3.step fun v hq up=>ih f hf p v _ _ k1 xu n1 l1 y1 2 hq qI (up v1) az) fun w4 S4=>?_;refine yE ?_;intro d1 bC w5 S5 d3 R0 R1 R2 R3 bX cU;refine bD (S5.step fun v hq up=>(ih f hf p v _ _ k2 nm2 n2 l2 y2 1 hq ho2 (up v2) az)) fun w6 S6=>?_;exact yo
 ·have o1':¬((own:Nat):Int)=1:=by omega
  have ho8:((own:Nat):Int)<=8:=by have:=Yz 7 nm;rw[ep.out] at this;omega
  have ho0:(0:Int)<=((own:Nat):Int):=ab;by_cases o4:own=4
  ·have o4':((own:Nat):Int)=4:=by omega
   have Pw:eE f 7 nm n [[k1,xu,n1,l1],[k2,nm2,n2,l2]]=bE f [k1,xu,n1,l1] 5++[nm]++bE f [k2,nm2,n2,l2] 5:=by exact Dz
   rw[Pw] at hN;replace Pw:=ah Pw;go_wp2_with fail;refine bD (S3.step fun v hq up=>ih f hf p v _ _ k1 xu n1 l1 y1 5 hq qI (up v1) az) fun w4 S4=>?_;refine yE ?_;intro d1 bC w5 S5 d3 R0 R1 R2 R3 bX cU;refine bD (S5.step fun v hq up=>(ih f hf p v _ _ k2 nm2 n2 l2 y2 5 hq ho2 (up v2) az)) fun w6 S6=>?_;exact yo
  ·have o4':¬((own:Nat):Int)=4:=by omega
   have Pw:eE f 7 nm n [[k1,xu,n1,l1],[k2,nm2,n2,l2]]=bE f [k1,xu,n1,l1] own++[nm]++bE f [k2,nm2,n2,l2] (own+1):=by exact Dz
   rw[Pw] at hN;replace Pw:=ah Pw;go_wp2_with fail;refine bD (S3.step fun v hq up=>ih f hf p v _ _ k1 xu n1 l1 y1 own hq qI (up v1) az) fun w4 S4=>?_;refine yE ?_;intro d1 bC w5 S5 d3 R0 R1 R2 R3 bX cU;refine bD (S5.step fun v hq up=>alH (ih f hf p v _ _ k2 nm2 n2 l2 y2 (own+1) hq ho2 (up v2) az)) fun w6 S6=>?_;exact yo
end Go.Proofs.Gm
