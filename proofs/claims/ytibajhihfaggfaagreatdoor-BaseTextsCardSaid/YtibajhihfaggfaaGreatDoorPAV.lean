/- BaseTexts holds: Names, Text, Needs and Classes agree with the reference implementation (the tied card). No condition. -/
import Derived.Test.YtibajhihfaggfaaGreatDoorCards
import Derived.Test.YtibajhihfaggfaaGreatDoorTie
import Derived.Test.YtibajhihfaggfaaGreatDoorPAC
import Derived.Test.YtibajhihfaggfaaGreatDoorPAE
import Derived.Test.YtibajhihfaggfaaGreatDoorPAS
import Derived.Test.YtibajhihfaggfaaGreatDoorPAT
import Derived.Test.YtibajhihfaggfaaGreatDoorPAU
set_option linter.all false
set_option maxRecDepth 100000
set_option maxHeartbeats 8000000
namespace Go.Proofs.Gm
open Go.Proofs.Tryz
open Go.RowKit Go.Maps
open Go.Proofs.Bm
variable {k g b p i:Nat}{S:Nat->Prop}{nm ks s:List Nat}{V W w':World}{l A ns:List (List Nat)}{a:Option Addr}{v:Value}{e:Ending}{rest:List Oper}{o:Oper}{L:List aF}{fo pa cr fe iv:List Row}
def aoy:(prog.info? 9).map (fun i=>(i.zero,i.size,i.bytes))=some (some (.string ⟨#[]⟩),1,16):=by kernel_rfl
def OS(W:World)(V:World)(v:Value)(l:List (List Nat)):Prop:=OwnR W.heap.size W V 9 1 v (strs l)
def aci(l:List (List Nat))(s:List Nat):strs l++[[T.str s]]=strs (l++[s]):=by simp[strs]
def OS.form{W V:World}{v:Value}{l:List (List Nat)}(h:OS W V v l):∃a c,v=sV a l.length c:=by obtain⟨a,c,e⟩:=OwnR.form h;exact⟨a,c,by rw[e];simp[strs]⟩
def OS.no{V':World}(h:OS W V v l)(hk:Kept aK V V'):OS W V' v l:=OwnR.kept h hk (fun _ _ _ e=>e) fun _ _ e=>e
def OS.cell(h:OS W V v l):an W V (.sl (strs l)) v:=OwnR.afp h (fun _ h _=>h) fun b e=>(OwnR.lt h b e).1
def OS.app{ops:Array Oper}{a:Act}{Q:Exit->Act->World->Prop}(hg:o.guard=none)(s x:Operand)(o7:o.op=Op.call {callee:=Callee.builtin Builtin.append,args:=#[s,x],argTypes:=#[22,22]})
  (h:OS W V v l) (hs:a.eval s=v) (z:List Nat) (hx:a.eval x=sV V 1 1) (hW:W.heap.size<=V.heap.size) (hl:l.length<=1000000)
  (hK:∀v' V',OS W V' v' (l++[z])->Kept (fun j=>W.heap.size<=j) (V.alloc (cO #[z] 9)) V'->wpList prog ops Q rest (a.put o.dst v') V'):wpList prog ops Q (o::rest) a (V.alloc (cO #[z] 9)):=by
 obtain⟨i,hi,hz,dM,dY⟩:=dN aoy;refine bu (P:=prog) underlying22 hi hz dM dY rfl ab ab hg s x o7 hs ⟨V,0,none⟩ 1 hx [.string (bs z)] [z] (h.no ((Kept.refl aK V).alloc _)) aH (by simpa[strs] using hl) rfl (cell_one_new _ _ _) (.cons (.str _) .nil) ?_;intro v' V' h1 h2 _;rw[aci] at h1;exact hK v' V' h1 (h2.mono fun b hb=>(OwnR.lt h b hb).1)
def ID(hk:k < 12):bW (eN.getD k []):=by rw[rA,ck (by exact hk)];exact BG _ (Ug _)
def aoz(w:World)(s t:ByteArray)(a:Option Addr)(m c:Nat):Calls prog 37 #[.agg #[.string s,sV a m c,.string t]] w fun e w'=>e=.returned (.string s)/\Kept aK w w':=by go_enter func37,ntmps37;go_wp2_with fail;go_ret;exact pB
def aoA{w:World}(hx:an S w (.sl (ach prog)) (sV g 12 12)):Calls prog 36 #[sV g 12 12,.func (.func 37) #[] #[]] w fun e w'=>∃a c,e=.returned (sV a 12 c)/\an w w' (.sl (strs eN)) (sV a 12 c)/\Kept aK w w':=by
 replace hx:=ah hx;go_enter func36,ntmps36;go_wp2_with fail;go_loopg [5,10] 12 (fun gg s5 s10 wr=>∃k:Nat,s10=iV k/\k+gg=12/\Hid (OS w wr s5 (eN.take k))/\Hid (Kept aK w wr))
 case atStart=>exact⟨0,rfl,rfl,OwnR.nil,Kept.refl _ _⟩
 case round=>
  obtain⟨k,rfl,hk,hO,hK⟩:=hrel;obtain⟨a0,c0,rfl⟩:=hO.out.form;have Am:(eN.take k).length=k:=by rw[sK];exact MO (by show k<=12;omega)
  rw[Am] at hO ⊢;by_cases bQ:k < 12
  ·refine Gg ?_;intro bC a c v1 q0 q1 q2 xY oL;obtain⟨ML,Ab⟩:∃m,(zO.getD k []).length=m:=⟨_,rfl⟩
   obtain⟨NM,BS⟩:∃m,eN.getD k []=m:=⟨_,rfl⟩
   rw[Ab] at q1;rw[BS] at q0;revert Ab BS;refine ct ?_;intro Ab BS;go_wp2_with fail;refine bD (aoz _ _ _ _ _ _) fun w2 K2=>?_;have gu:=hK.trans' (((Kept.refl aK wr).alloc (cO #[NM,sV a ML c,(tL prog k)] 64)).trans' K2);have qY:=ah (hO.no (((Kept.refl aK wr).alloc (cO #[NM,sV a ML c,(tL prog k)] 64)).trans' K2));go_wp2_with (at_builtin;refine OS.app rfl (.tmp 14) (.tmp 18) rfl qY rfl NM rfl gu.size (by rw[Am];omega) ?_;intro v4 w4 T5 yu);obtain⟨a5,c5,rfl⟩:=T5.form;have hl5:(eN.take k++[NM]).length=k+1:=by rw[j0,Am];rfl
   rw[hl5] at T5 ⊢;go_wp2_with fail;go_roundg (gk - 1)
   case measure=>omega
   case rel=>
    refine⟨k+1,by simp,by omega,?_,(gu.alloc _).trans yu fun b hb e=>by omega⟩;have e:eN.take (k+1)=eN.take k++[NM]:=by rw[wZ,<-BS.out,rA,ck (show k < eN.length from bQ)];rfl
    rw[e];exact T5
  ·have afQ:k=12:=by omega
   subst afQ;go_wp2_with fail;go_ret;exact⟨_,_,rfl,hO.cell,hK⟩
def aaS(w:World):Calls prog 13 #[] w fun e w'=>∃a c,e=.returned (sV a 12 c)/\an w w' (.sl (strs eN)) (sV a 12 c)/\Kept aK w w':=by go_enter func13,ntmps13;go_wp2_with fail;refine(afN _).mono ?_;rintro e w1 ⟨g,rfl,hx,K1⟩;have h2:=ah (aoA hx);go_wp2_with fail;refine h2.mono ?_;rintro e w2 ⟨a,c,rfl,hv,K2⟩;go_wp2_with fail;go_ret;exact⟨a,c,rfl,hv.mono fun b hb _=>cn K1.size hb,K1.trans' K2⟩
def lh(k:Nat):List (List Nat):=eN.filter fun n=>n==eN.getD k []||(zO.getD k []).contains n
def aoB{w:World}{c:Nat}(hx:an S w (.sl (strs l)) (sV a l.length c))(hl:∀s∈l,bW s)(hn:l.length<=1000){s:List Nat}(hs:bW s):Calls prog 62 #[sV a l.length c,.string (bs s)] w fun e w'=>e=.returned (.bool (l.contains s))/\w'=w:=by
 cases l with
 |nil=>exact Tryz.slices_Contains_string_empty a c (bs s) w
 |cons y l=>
  have hg:∃g off,a=some ⟨g,off,none⟩:=by obtain⟨g,off,e,-⟩:=hx.elem (k:=0) (row:=[y]) rfl;exact⟨g,off,e⟩
  obtain⟨g,off,rfl⟩:=hg;refine(Tryz.slices_Contains_string g off (y::l).length c ((y::l).map bs) (bs s) w ai (by simp at hn ⊢;omega) (fun j hj=>?_)).mono ?_
  ·have WA:j < (y::l).length:=by simpa using hj
   obtain⟨g',VP,e,-,cs,hR,hc⟩:=hx.elem (k:=j) (row:=[.str ((y::l)[j])]) (by unfold strs;rw[List.getElem?_map,List.getElem?_eq_getElem WA];rfl);obtain⟨c0,Ap,rfl,v0,r0⟩:=hR.aG
   cases r0.jO;cases v0.bq;simp only[wY,I0,xO] at e;obtain⟨rfl,rfl⟩:=e;have:=hc 0 _ rfl;rw[rA,qC,ck WA];simpa using this
  ·rintro e w' ⟨rfl,rfl⟩;refine⟨?_,rfl⟩;congr 2
   rw[oh ai,sM,Lib.containsS_iff,MK];constructor
   ·intro h;obtain⟨z,hz,e⟩:=dO.1 h;exact Jh (hl z hz) hs e▸hz
   ·intro h;exact dO.2 ⟨s,h,rfl⟩
def alV(k:Nat):(∀s∈zO.getD k [],bW s)/\(zO.getD k []).length<=2:=by
 rw[rA]
 cases e:zO[k]? with
 |none=>exact⟨fun s h=>(by cases h),by simp⟩
 |some l=>
  have h:∀l∈zO,(∀s∈l,bW s)/\l.length<=2:=by unfold zO bW;decide
  exact h l (cm e)
def aj2{w:World}(afQ:k < 12){a:Option Addr}{c:Nat}(t:ByteArray)(hx:an S w (.sl (strs (zO.getD k []))) (.slice a (zO.getD k []).length c)):Calls prog 31 #[.agg #[.string (bs (eN.getD k [])),.slice a (zO.getD k []).length c,.string t]] w fun e w'=>∃a c,e=.returned (.slice a (lh k).length c)/\an w w' (.sl (strs (lh k))) (.slice a (lh k).length c)/\Kept aK w w':=by
 obtain⟨Ij,Pt⟩:=alV k;have hna:=ID afQ;obtain⟨ML,Ab⟩:∃m,(zO.getD k []).length=m:=⟨_,rfl⟩
 obtain⟨NM,BS⟩:∃m,eN.getD k []=m:=⟨_,rfl⟩
 have hc0:=fun(s:List Nat) (hs:bW s) (V:World) (hK:Kept aK w V)=>aoB (hx.mono (S':=fun b=>True) (fun _ _ _=>bw) |>.kept hK (fun _ _ _ e=>e)) Ij ab hs;rw[Ab] at hc0 ⊢;rw[BS] at hna ⊢;obtain⟨W,hW⟩:∃W,W=w.alloc (cO #[NM,sV a ML c,t] 64):=⟨_,rfl⟩
 have hb:W.heap[w.heap.size]?=some (.cells #[NM,sV a ML c,t] 64 (0,0)):=mO;have dZ:Kept aK w W:=eW;revert Ab BS hc0 hW hb dZ;refine LX ?_;intro Ab BS hc0 hW hb dZ;go_enter func31,ntmps31;go_wp2_with fail;rw[<-hW.out];refine(aaS _).mono ?_;rintro e w1 ⟨ga,gc,rfl,hv,K1⟩;have lL:=ah (aJ hb.out K1);have Io:=ah (dZ.trans' K1);replace hv:=ah hv;go_wp2_with fail;go_loopg [3,8] 12 (fun gg s3 s8 wr=>∃j:Nat,s8=iV j/\j+gg=12/\Hid (OS w1 wr s3 ((eN.take j).filter fun n=>n==NM||(zO.getD k []).contains n))/\Hid (Kept aK w1 wr))
 case atStart=>exact⟨0,rfl,rfl,OwnR.nil,Kept.refl _ _⟩
 case round=>
  obtain⟨j,rfl,hj,hO,hK⟩:=hrel;by_cases bQ:j < 12
  ·obtain⟨NJ,hNJ⟩:∃m,eN.getD j []=m:=⟨_,rfl⟩
   have hnj:bW NJ:=hNJ▸ID bQ;have e:eN.take (j+1)=eN.take j++[NJ]:=by rw[wZ,<-hNJ,rA,ck (show j < eN.length from bQ)];rfl
   obtain⟨g',off,eg,-,cs,hR,hc⟩:=hv.out.elem (k:=j) (row:=[NJ]) (by unfold strs;rw[List.getElem?_map,<-hNJ,List.getD_eq_getElem?_getD,List.getElem?_eq_getElem (show j < eN.length from bQ)];rfl);obtain⟨c0,Ap,rfl,v0,r0⟩:=hR.aG
   cases r0.jO;cases v0.bq;subst eg;have q0:=hK.aq (hc 0 _ rfl) (fun e=>e);have h1:([T.str NJ]:Row).length=1:=rfl;rw[h1,fS,B6] at q0;have hbj:=aJ lL hK;have d0:=aC hbj 0;have d1:=aC hbj 1;have xY:(j:Int) < 12:=ab;have oL:(0:Int)<=(j:Int):=ab;obtain⟨CB,hCB⟩:∃b,(zO.getD k []).contains NJ=b:=⟨_,rfl⟩
   have hcj:=hc0 NJ hnj wr (Io.trans' hK);rw[hCB] at hcj;replace hcj:=ah hcj;have heq:=cH hnj hna;obtain⟨L0,hL0⟩:∃L,(eN.take j).filter (fun n=>n==NM||(zO.getD k []).contains n)=L:=⟨_,rfl⟩
   have arP:L0.length<=12:=by rw[<-hL0];exact cn (Qs _ _) (by rw[sK];exact Nat.min_le_right _ _)
   rw[hL0] at hO;obtain⟨a0,c0,rfl⟩:=hO.out.form;have nn:(eN.take (j+1)).filter (fun n=>n==NM||(zO.getD k []).contains n)=L0++(if(NJ==NM||CB)=true then[NJ] else[]):=by rw[e,List.filter_append,hL0,<-hCB];simp[List.filter_cons]
   revert hNJ hbj hL0 nn;refine jU ?_;intro hNJ hbj hL0 nn;by_cases he:NJ=NM
   ·have hee:(NJ==NM)=true:=by simpa using he
    rw[hee] at heq;subst he;go_wp2_with (at_builtin;refine OS.app rfl (.tmp 22) (.tmp 24) rfl hO rfl NJ rfl hK.size ab ?_;intro v4 w4 T5 yu;obtain⟨a5,c5,rfl⟩:=T5.form;rw[show(L0++[NJ]).length=L0.length+1 by rw[j0];rfl]);go_roundg (gk - 1)
    case measure=>omega
    case rel=>exact⟨j+1,by simp,by omega,by have h:=nn.out;rw[hee,Bool.true_or,aI rfl] at h;rw[h];rw[show L0.length+1=(L0++[NJ]).length by rw[j0];rfl];exact T5,(hK.alloc _).trans yu fun b hb e=>by omega⟩
   ·have hee:(NJ==NM)=false:=by simpa using he
    rw[hee] at heq;replace hCB:=ah hCB
    cases CB with
    |false=>
     go_wp2_with (go_at_call 62;refine hcj.mono ?_;rintro e w2 ⟨rfl,rfl⟩);go_roundg (gk - 1)
     case measure=>omega
     case rel=>exact⟨j+1,by simp,by omega,by have h:=nn.out;rw[hee] at h;rw[h];show OS w1 w2 _ (L0++[]);rw[gp];exact hO,hK⟩
    |true=>
     go_wp2_with (first|(go_at_call 62;refine hcj.mono ?_;rintro e w2 ⟨rfl,rfl⟩)|(at_builtin;refine OS.app rfl (.tmp 22) (.tmp 24) rfl hO rfl NJ rfl hK.size ab ?_;intro v4 w4 T5 yu;obtain⟨a5,c5,rfl⟩:=T5.form;rw[show(L0++[NJ]).length=L0.length+1 by rw[j0];rfl]));go_roundg (gk - 1)
     case measure=>omega
     case rel=>exact⟨j+1,by simp,by omega,by have h:=nn.out;rw[hee] at h;rw[h];rw[show L0.length+1=(L0++[NJ]).length by rw[j0];rfl];exact T5,(hK.alloc _).trans yu fun b hb e=>by omega⟩
  ·have aox:j=12:=by omega
   subst aox;have L5:(eN.take 12).filter (fun n=>n==NM||(zO.getD k []).contains n)=lh k:=by unfold lh;rw[BS.out];rfl
   rw[L5] at hO;obtain⟨a0,c0,rfl⟩:=hO.out.form;obtain⟨KL,sc⟩:∃m,(lh k).length=m:=⟨_,rfl⟩
   rw[sc] at hO ⊢;replace sc:=ah sc;go_wp2_with fail;go_ret;refine⟨_,_,by rw[sc.out];rfl,?_,Io.trans' hK⟩;rw[sc.out];exact hO.cell.mono fun b hb _=>cn Io.size hb
def afR(nm:List Nat)(w:World)(e:Ending)(w':World):Prop:=
 (∃(k:Nat) (a:Option Addr) (c:Nat),k < 12/\nm=eN.getD k []/\e=.returned (.tuple #[.slice a (lh k).length c,oZ])/\an w w' (.sl (strs (lh k))) (.slice a (lh k).length c)/\Kept aK w w')∨
 (nm∉eN/\e=.returned (.tuple #[nS,iV 4])/\Kept aK w w')
def afS(hm:bW nm)(w:World):Calls prog 8 #[nm] w (afR nm w):=by
 go_enter func8,ntmps8;go_wp2_with fail;refine(Ts hm _).mono ?_;rintro e w1 (⟨k,a,c,hk,Md,rfl,hv,K1⟩|⟨eK,rfl,K1⟩)
 ·have mu:=hv.kept ((Kept.refl aK w1).alloc (cO #[nm,.slice a (zO.getD k []).length c,(tL prog k)] 64)) (fun _ _ _ e=>e);have ha:=ah (aj2 hk (bs (tL prog k)) mu);obtain⟨ML,Ab⟩:∃m,(zO.getD k []).length=m:=⟨_,rfl⟩
  rw[Ab,<-Md] at ha;rw[Ab];revert Md Ab;refine ct ?_;intro Md Ab;go_wp2_with (first|refine QW ?_|(go_at_call 31;refine ha.mono ?_;rintro e w2 ⟨a2,c2,rfl,jo,K2⟩));refine bG (B8 rfl _ _ _) rfl ?_;exact .inl ⟨k,a2,c2,hk,Md,rfl,jo.mono fun b hb _=>cn (K1.alloc _).size hb,(K1.alloc _).trans' K2⟩
 ·go_wp2_with (refine QW ?_);exact D4
def aiQ:((List.range 12).all fun k=>decide ((tL prog k).length<=4000))=true:=by decide+kernel
def Nc(hk:k < 12):(tL prog k).length<=4000:=by have:=dV.1 aiQ k (BZ.2 hk);simpa using this
def YE(nm:List Nat)(w:World)(e:Ending)(w':World):Prop:=
 (∃k,k < 12/\nm=eN.getD k []/\e=.returned (.tuple #[.string (bs (tL prog k)++mz),oZ])/\Kept aK w w')∨(nm∉eN/\e=.returned (.tuple #[eS,iV 4])/\Kept aK w w')
def aoC(hm:bW nm)(w:World):Calls prog 6 #[nm] w (YE nm w):=by
 go_enter func6,ntmps6;go_wp2_with fail;refine(Ts hm _).mono ?_;rintro e w1 (⟨k,a,c,hk,Md,rfl,hv,K1⟩|⟨eK,rfl,K1⟩)
 ·obtain⟨ML,Ab⟩:∃m,(zO.getD k []).length=m:=⟨_,rfl⟩
  rw[Ab];replace Md:=ah Md;have dM:(bs (tL prog k)).size<=4000:=HU;have Uv:(mz:ByteArray).size=1:=rfl;go_wp2_with fail;refine bG (B8 rfl _ _ _) rfl ?_;exact .inl ⟨k,hk,Md,rfl,K1.alloc _⟩
 ·go_wp2_with fail;exact D4
def OZ(k k0:ByteArray)(v:Value):∀(L:List (ByteArray×Value)) (j:Nat),lT k (L++[(k0,v)]) j=match lT k L j with|some x=>some x|none=>if k==k0 then some (j+L.length,v) else none
 |[],j=>by simp[lT]
 |p::r,j=>by
  simp only[qF,lT];split
  ·rfl
  ·rw[OZ k k0 v r (j+1)]
   cases lT k r (j+1) with
   |some x=>rfl
   |none=>simp only[dC];split<;>simp;omega
def MB(w:World)(b:Nat)(A:List (List Nat)):Prop:=∃L,dG w b L/\∀s,bW s->(s∈A->∃i,lT (bs s) L 0=some (i,.bool true))/\(s∉A->lT (bs s) L 0=none)
def aaU:prog.underlying 69=some (.map 9 4):=by kernel_rfl
def afW:prog.underlying 9=some .string:=by kernel_rfl
def MB.new(w:World):MB (w.alloc (.map #[] 0)) w.heap.size []:=⟨[],by unfold dG;rw[heap_alloc,if_pos rfl];rfl,fun s _=>⟨fun h=>(by cases h),fun _=>rfl⟩⟩
def MB.lt{w:World}(h:MB w b A):b < w.heap.size:=by obtain⟨L,hD,-⟩:=h;exact(aQ.1 hD).1
def MB.kept{w:World}{F:Nat->Prop}(h:MB w b A)(hk:Kept F w w')(hF:¬F b):MB w' b A:=by obtain⟨L,hD,hL⟩:=h;exact⟨L,(hk.block b (aQ.1 hD).1 hF).trans hD,hL⟩
def YH{P:Program}{w:World}{T kT eT:TypeId}{L:List (ByteArray×Value)}(hT:P.underlying T=some (.map kT eT))(hk:P.underlying kT=some .string)(hD:dG w b L){k:ByteArray}{i:Nat}{v:Value}(dq:lT k L 0=some (i,v)):(Instr.mapUpdate T (.map (some b)) (.string k) v).run P w=.ok () w:=by
 have sT:=hD;unfold dG at sT;obtain⟨_,q,h2,rfl,rfl⟩:=yT dq;have he:=wL L i 0 q jb;simp only[fi] at he;have hm:((nh L 0).toArray.modify i fun e=>{key:=.string q.1,val:=q.2,born:=e.born})=(nh L 0).toArray:=by exact Ec
 have hs:Go.ChangeMaps.setBlock w b (.map (nh L 0).toArray L.length)=w:=by
  unfold Go.ChangeMaps.setBlock;congr 1
  apply Rn
  intro j;rw[IX];split
  ·rename_i e;rw[<-e,aI (aQ.1 sT).1];exact sT.symm
  ·rfl
 have hsb:Instr.sameBits 10000 (.string q.1) (.string q.1)=true:=by simp[Instr.sameBits]
 simp[Instr.mapUpdate,B7 hT,JJ sT,run_checkKey hk,run_findKey hk,dq,MZ _ sT,Instr.keyThatStays,he,hsb];have PN:=hm;simp at PN;rw[PN,Lx,hs]
def MB.put{w:World}(h:MB w b A){s:List Nat}(hs:bW s):∃w',(Instr.mapUpdate 69 (.map (some b)) (.string (bs s)) (.bool true)).run prog w=.ok () w'/\MB w' b (s::A)/\Kept (fun j=>j=b) w w':=by
 obtain⟨L,hD,hL⟩:=h;by_cases lQ:s∈A
 ·obtain⟨i,hi⟩:=(hL s hs).1 lQ;exact⟨w,YH aaU afW hD hi,⟨L,hD,fun t ht=>⟨fun h=>(hL t ht).1 ((cZ.1 h).elim (fun e=>e▸lQ) id),fun h=>(hL t ht).2 fun h2=>h (eC _ h2)⟩⟩,Kept.refl _ _⟩
 ·obtain⟨w',h1,h2,h3,h4⟩:=rN (P:=prog) aaU afW hD ((hL s hs).2 lQ) (.bool true);refine⟨w',h1,⟨_,h2,fun t ht=>⟨fun h=>?_,fun h=>?_⟩⟩,⟨h3.os,h3.tape,h3.output,h3.size,fun k hk hn=>h3.block k hk fun e=>hn (j6 e)⟩⟩
  ·rw[OZ];by_cases htA:t∈A
   ·obtain⟨i,hi⟩:=(hL t ht).1 htA;exact⟨i,by rw[hi]⟩
   ·obtain rfl:t=s:=(cZ.1 h).resolve_right htA;exact⟨_,by rw[(hL t ht).2 htA];simp;rfl⟩
  ·rw[OZ,(hL t ht).2 fun h2=>h (eC _ h2)];simp only;rw[aE];intro e;have e:=Jh ht hs ql;exact h (by rw[e];simp)
def aoH(w:World):(zeroValue 4).run prog w=.ok (.bool false) w:=by kernel_rfl
def MB.has{w:World}(h:MB w b A){s:List Nat}(hs:bW s):(Instr.lookup 69 (.map (some b)) (.string (bs s)) false).run prog w=.ok (.bool (decide (s∈A))) w:=by
 obtain⟨L,hD,hL⟩:=h;by_cases lQ:s∈A
 ·obtain⟨i,hi⟩:=(hL s hs).1 lQ;rw[B4 lQ];exact Od aaU afW hD hi
 ·rw[B5 lQ];have dq:=(hL s hs).2 lQ;unfold dG at hD;have hck:∀e,(Instr.checkKey e 10000 9 (.string (bs s))).run prog w=.ok () w:=fun e=>run_checkKey afW e 9999 _;simp[Instr.lookup,B7 aaU,JJ hD,hck,run_findKey afW,dq,aoH]
def mS(ns:List (List Nat)):List (List Nat):=ns.flatMap fun n=>lh (eN.idxOf n)
def PK(A:List (List Nat)):List Nat:=(List.range 12).filter fun k=>decide (eN.getD k []∈A)
def mF(P:Program)(ks:List Nat):List Nat:=QC (ks.map (tL P))
def O0(a b:List Nat):bs a++bs b=bs (a++b):=by
 apply ByteArray.ext
 simp[bs]
def acn{c:Nat}{w:World}(hx:an S w (.sl (strs ns)) (sV a ns.length c))(bL:∀s∈ns,bW s)(hn:ns.length<=60)(Q:Ending->World->Prop)(h40:40 < ns.length->∀w',Kept aK w w'->Q (.returned (.tuple #[nS,iV 3])) w')(eK:ns.length<=40->(∃s∈ns,s∉eN)->∀w',Kept aK w w'->Q (.returned (.tuple #[nS,iV 4])) w')(afX:ns.length<=40->(∀s∈ns,s∈eN)->∀w1,Kept aK w w1->Calls prog 34 #[(mF prog (PK (mS ns)))] w1 fun e w'=>∃a n c,e=.returned (.tuple #[sV a n c,.agg #[iV 0,iV 0],oZ])/\Kept aK w1 w'/\∀w2,Kept aK w' w2->Q (.returned (.tuple #[sV a n c,oZ])) w2):Calls prog 10 #[sV a ns.length c] w Q:=by
 obtain⟨KN,hKN⟩:∃m,ns.length=m:=⟨_,rfl⟩
 rw[hKN] at hx hn h40 eK afX ⊢;by_cases h4:40 < KN
 ·have al2:=ah (h40 h4);have h41:(40:Int) < (KN:Int):=ab;go_enter func10,ntmps10;go_wp2_with fail;exact al2 _ (Kept.refl _ _)
 ·have al3:=ah (eK ab);have afY:=ah (afX ab);have h41:¬(40:Int) < (KN:Int):=ab;have hmk:=@run_makeMap prog;revert hx hKN;refine ct ?_;intro hx hKN;go_enter func10,ntmps10;go_wp2_with fail;have hM0:Hid (MB (w.alloc (.map #[] 0)) w.heap.size []):=MB.new w;go_loopg [23] KN (fun gg s23 wr=>∃j:Nat,s23=iV j/\j+gg=KN/\Hid (∀s∈ns.take j,s∈eN)/\Hid (∃A,MB wr w.heap.size A/\∀s,s∈A↔s∈mS (ns.take j))/\Hid (Kept aK w wr))
  case atStart=>exact⟨0,rfl,by omega,fun s h=>(by simp at h),⟨[],hM0,fun s=>by simp[mS]⟩,(Kept.refl aK w).alloc _⟩
  case round=>
   obtain⟨j,rfl,hj,mu,hA,hK⟩:=hrel;obtain⟨GO,hGO⟩:∃x,Hid (x=gk):=⟨_,ah rfl⟩
   by_cases bQ:j < KN
   ·obtain⟨s,hs⟩:∃s,ns[j]?=some s:=⟨_,ck kQ⟩
    have hsS:=bL s (cm hs);obtain⟨g',off,eg,-,cs,hR,hc⟩:=hx.out.elem (k:=j) (row:=[.str s]) Lo;obtain⟨c0,Ap,rfl,v0,r0⟩:=hR.aG
    cases r0.jO;cases v0.bq;subst eg;have q0:=hK.aq (hc 0 _ rfl) (fun e=>e);revert hs q0;refine Gh ?_;intro q0 h1 xY oL hs etk;go_wp2_with fail;refine(Ts hsS _).mono ?_;rintro e w1 (⟨k,a1,c1,hk,Md,rfl,hv,K1⟩|⟨al4,rfl,K1⟩)
    ·obtain⟨A,hMA,hAw⟩:=hA.out;have O1:=aj2 hk (bs (tL prog k)) (hv.kept ((Kept.refl aK w1).alloc (cO #[.string (bs (eN.getD k [])),.slice a1 (zO.getD k []).length c1,.string (bs (tL prog k))] 64)) (fun _ _ _ e=>e));obtain⟨ML,Ab⟩:∃m,(zO.getD k []).length=m:=⟨_,rfl⟩
     rw[<-Md] at O1;rw[Ab] at O1 ⊢;revert Md O1 Ab;refine jk ?_;intro Md O1 Ab;have hM1:=ah (hMA.kept K1 (fun e=>e));have Io:=ah (hK.trans' K1);have hwK:=ah K1.size;replace hAw:=ah hAw;go_wp2_with fail;refine O1.mono ?_;rintro e w2 ⟨a2,c2,rfl,jo,K2⟩;obtain⟨KA,kB⟩:∃m,(lh k).length=m:=⟨_,rfl⟩
     have aj3:KA<=12:=by rw[<-kB];exact Qs _ _
     rw[kB] at jo ⊢;have hM2:=ah ((hM1.kept ((Kept.refl aK w1).alloc (cO #[.string (bs s),sV a1 ML c1,.string (bs (tL prog k))] 64)) (fun e=>e)).kept K2 (fun e=>e));have gu:=ah ((Io.alloc (cO #[.string (bs s),sV a1 ML c1,.string (bs (tL prog k))] 64)).trans' K2);have hbl:=ah (hM2.lt);have jy:Hid (w.heap.size < (w1.alloc (cO #[.string (bs s),sV a1 ML c1,.string (bs (tL prog k))] 64)).heap.size):=ah (by have:=hM1.out.lt;simp;omega);have aoI:Hid (∀s∈lh k,bW s):=ah fun s hs=>BG s (Uc.1 hs).1;revert jo kB;refine ct ?_;intro jo kB;go_wp2_with fail;go_loopg [37] KA (fun gi s37 wi=>∃i:Nat,s37=iV i/\i+gi=KA/\Hid (∃A,MB wi w.heap.size A/\∀s,s∈A↔s∈mS (ns.take j)∨s∈(lh k).take i)/\Hid (Kept (fun b=>b=w.heap.size) w2 wi))
     case atStart=>exact⟨0,rfl,by omega,⟨A,hM2,fun s=>by simp[hAw.out]⟩,Kept.refl _ _⟩
     case round=>
      obtain⟨i,rfl,hi,hAi,zF⟩:=hrel;by_cases hli:i < KA
      ·obtain⟨z,hz⟩:∃z,(lh k)[i]?=some z:=⟨_,ck (by have:=kB.out;omega)⟩
       have hzS:=aoI z (cm hz);obtain⟨g3,aoJ,eg,Bk,Sx,qp,NF⟩:=jo.out.elem (k:=i) (row:=[.str z]) Ho;obtain⟨c3,Sx,rfl,v3,r3⟩:=qp.aG
       cases r3.jO;cases v3.bq;subst eg;have q3:=zF.aq (NF 0 _ rfl) (fun e=>by have h1:=jy.out;have h2:=qD h1 Bk;have e':g3=w.heap.size:=e;omega);have h3:([T.str z]:Row).length=1:=rfl;rw[h3,fS,B6] at q3;obtain⟨Ai,hMi,hAi⟩:=hAi.out;obtain⟨w5,hr5,hM5,hK5⟩:=hMi.put hzS;have ij:(i:Int) < (KA:Int):=ab;have I6:(0:Int)<=(i:Int):=ab;have etz:(lh k).take (i+1)=(lh k).take i++[z]:=HS;revert hz hAi hM5 hK5 etz;refine nx ?_;intro hz hAi hM5 hK5 etz;go_wp2_with fail;go_roundg (gk - 1)
       case measure=>omega
       case rel=>exact⟨i+1,by simp,by omega,⟨_,hM5,fun t=>by rw[etz.out,cZ,hAi.out,oU,JH];constructor<;>(intro h;rcases h with h|h|h<;>simp[h])⟩,zF.trans' hK5⟩
      ·have hik:i=KA:=by omega
       subst hik;have ij:¬(i:Int) < (i:Int):=ab;obtain⟨Ai,hMi,hAi⟩:=hAi.out;have aoK:(lh k).take i=lh k:=oh (by rw[kB.out];exact aM _);rw[aoK] at hAi;have hix:eN.idxOf s=k:=by have:=Tr hk (nm:=s) Md.symm;have lQ:s∈eN:=GZ;unfold ixZ at this;rw[aI lQ] at this;omega
       have lQ:s∈eN:=GZ;revert hMi hAi hix lQ;refine jU ?_;intro hMi hAi hix lQ;go_wp2_with fail;go_roundg (GO - 1)
       case measure=>have:=hGO.out;omega
       case rel=>
        refine⟨j+1,by simp,by have:=hGO.out;omega,fun t ht=>?_,⟨Ai,hMi,fun t=>?_⟩,gu.trans zF fun b hb e=>by omega⟩
        ·exact J3
        ·rw[hAi.out,etk.out];unfold mS;rw[Qt,oU,rz,List.flatMap_nil,gp,hix.out]
    ·replace K1:=ah K1;go_wp2_with fail;exact al3 ⟨s,cm hs,al4⟩ _ ((hK.trans' K1).alloc _)
   ·have hjk:j=KN:=by omega
    have QM:ns.take j=ns:=oh kQ;rw[QM] at mu hA;obtain⟨A,hMA,hAw⟩:=hA.out;have xY:¬(j:Int) < (KN:Int):=ab;have UJ:Hid (PK A=PK (mS ns)):=Lib.hid (by unfold PK;congr 1;funext k;rw[decide_eq_decide];exact hAw _);have O2:=ah (afY mu.out);rw[<-UJ.out] at O2;replace hMA:=ah hMA;go_wp2_with fail;refine(afN _).mono ?_;rintro e w1 ⟨gl,rfl,al5,K1⟩;have hM1:=ah (hMA.kept K1 (fun e=>e));have Io:=ah (hK.trans' K1);replace al5:=ah al5;go_wp2_with fail;go_loopg [11,47] 12 (fun gi s11 s47 wi=>∃i:Nat,s47=iV i/\i+gi=12/\Hid (s11=.string (bs (mF prog ((List.range i).filter fun k=>decide (eN.getD k []∈A)))))/\Hid (Kept aK w1 wi))
    case atStart=>exact⟨0,rfl,rfl,rfl,Kept.refl _ _⟩
    case round=>
     obtain⟨i,rfl,hi,L7,zF⟩:=hrel;obtain⟨SR,V3⟩:∃s,mF prog ((List.range i).filter fun k=>decide (eN.getD k []∈A))=s:=⟨_,rfl⟩
     have aiW:SR.length<=12*4001:=by rw[<-V3];unfold mF QC;exact Nb
     rw[V3] at L7;have afZ:=L7.out;subst afZ;have Uv:(bs SR).size<=48012:=by rw[dp];exact aiW
     by_cases hli:i < 12
     ·obtain⟨_,a1,c1,v1,-,q0,q1,q2⟩:=NZ al5.out hli;replace q0:=zF.aq q0 (fun e=>e);replace q1:=zF.aq q1 (fun e=>e);replace q2:=zF.aq q2 (fun e=>e);have hni:=ID hli;obtain⟨ML,Ab⟩:∃m,(zO.getD i []).length=m:=⟨_,rfl⟩
      obtain⟨NM,BS⟩:∃m,eN.getD i []=m:=⟨_,rfl⟩
      rw[Ab] at q1;rw[BS] at q0 hni;have pD:(bs (tL prog i)).size<=4000:=HT;have sY:(mz:ByteArray).size=1:=rfl;have hlk:=((hM1.kept zF (fun e=>e)).kept ((Kept.refl aK wr).alloc (cO #[NM,sV a1 ML c1,(tL prog i)] 64)) (fun e=>e)).has hni;have ij:(i:Int) < 12:=ab;have I6:(0:Int)<=(i:Int):=ab;have nn:mF prog ((List.range (i+1)).filter fun k=>decide (eN.getD k []∈A))=if NM∈A then SR++(tL prog i++[10]) else SR:=by rw[List.range_succ,List.filter_append,<-V3,<-BS];exact C4
      revert V3 Ab BS nn;refine jU ?_;intro V3 Ab BS nn;by_cases lQ:NM∈A
      ·rw[B4 lQ] at hlk;go_wp2_with fail;go_roundg (gk - 1)
       case measure=>omega
       case rel=>exact⟨i+1,by simp,by omega,by rw[nn.out,aI lQ];show _=_;rw[show(mz:ByteArray)=bs [10] from rfl,O0,O0],zF.alloc _⟩
      ·rw[B5 lQ] at hlk;go_wp2_with fail;go_roundg (gk - 1)
       case measure=>omega
       case rel=>exact⟨i+1,by simp,by omega,by rw[nn.out,aE lQ];rfl,zF.alloc _⟩
     ·have al6:i=12:=by omega
      subst al6;have L5:PK A=(List.range 12).filter fun k=>decide (eN.getD k []∈A):=rfl;rw[<-L5] at V3;rw[V3] at O2;replace V3:=ah V3;go_wp2_with fail;refine(O2 _ (Io.trans' zF)).mono ?_;rintro e w2 ⟨a3,n3,c3,rfl,K2,hQ⟩;replace hQ:=ah hQ;go_wp2_with fail;exact hQ _ ((Kept.refl aK w2).alloc _)
def af0(t:List Nat):(bs t).toList=t.map UInt8.ofNat:=by rw[dW,Tu]
def oS{b:ByteArray}(h:b=(aiP prog).getD k ⟨#[]⟩):b=bs (tL prog k):=by unfold tL;rw[IC,h]
def Jy(hk:k < 12)(w:World):Calls prog 30 #[(eN.getD k [])] w fun e w'=>e=.returned (.string (bs (tL prog k)))/\w'=w:=by
 match k,hk with
 |0,_=>show Calls prog 30 #[.string fI] w _;go_enter func30,ntmps30;go_wp2;go_ret;refine⟨gq (fun b=>Ending.returned (.string b)) (oS (k:=0) ?_),rfl⟩;kernel_rfl
 |1,_=>show Calls prog 30 #[.string gG] w _;go_enter func30,ntmps30;go_wp2;go_ret;refine⟨gq (fun b=>Ending.returned (.string b)) (oS (k:=1) ?_),rfl⟩;kernel_rfl
 |2,_=>show Calls prog 30 #[.string l8] w _;go_enter func30,ntmps30;go_wp2;go_ret;refine⟨gq (fun b=>Ending.returned (.string b)) (oS (k:=2) ?_),rfl⟩;kernel_rfl
 |3,_=>show Calls prog 30 #[.string tA] w _;go_enter func30,ntmps30;go_wp2;go_ret;refine⟨gq (fun b=>Ending.returned (.string b)) (oS (k:=3) ?_),rfl⟩;kernel_rfl
 |4,_=>show Calls prog 30 #[.string BX] w _;go_enter func30,ntmps30;go_wp2;go_ret;refine⟨gq (fun b=>Ending.returned (.string b)) (oS (k:=4) ?_),rfl⟩;kernel_rfl
 |5,_=>show Calls prog 30 #[.string BY] w _;go_enter func30,ntmps30;go_wp2;go_ret;refine⟨gq (fun b=>Ending.returned (.string b)) (oS (k:=5) ?_),rfl⟩;kernel_rfl
 |6,_=>show Calls prog 30 #[.string qz] w _;go_enter func30,ntmps30;go_wp2;go_ret;refine⟨gq (fun b=>Ending.returned (.string b)) (oS (k:=6) ?_),rfl⟩;kernel_rfl
 |7,_=>show Calls prog 30 #[.string od] w _;go_enter func30,ntmps30;go_wp2;go_ret;refine⟨gq (fun b=>Ending.returned (.string b)) (oS (k:=7) ?_),rfl⟩;kernel_rfl
 |8,_=>show Calls prog 30 #[.string IV] w _;go_enter func30,ntmps30;go_wp2;go_ret;refine⟨gq (fun b=>Ending.returned (.string b)) (oS (k:=8) ?_),rfl⟩;kernel_rfl
 |9,_=>show Calls prog 30 #[.string aX] w _;go_enter func30,ntmps30;go_wp2;go_ret;refine⟨gq (fun b=>Ending.returned (.string b)) (oS (k:=9) ?_),rfl⟩;kernel_rfl
 |10,_=>show Calls prog 30 #[.string oe] w _;go_enter func30,ntmps30;go_wp2;go_ret;refine⟨gq (fun b=>Ending.returned (.string b)) (oS (k:=10) ?_),rfl⟩;kernel_rfl
 |11,_=>show Calls prog 30 #[.string og] w _;go_enter func30,ntmps30;go_wp2;go_ret;refine⟨gq (fun b=>Ending.returned (.string b)) (oS (k:=11) ?_),rfl⟩;kernel_rfl
def V4(hm:bW nm)(eK:nm∉eN)(w:World):Calls prog 30 #[nm] w fun e w'=>e=.returned (.string ⟨#[]⟩)/\w'=w:=by
 have cR:∀t,t∈eN->((bs nm).toList==t.map UInt8.ofNat)=false:=fun t ht=>by
  rw[<-af0 t,cH hm (BG t ht)];exact gH.2 fun e=>eK (e▸ht)
 have h0:((bs nm).toList==[76,73,78,75])=false:=cR "LINK" aj;have h1:((bs nm).toList==[73,78,84,83])=false:=cR "INTS" aj;have h2:((bs nm).toList==[83,79,82,84,69,68])=false:=cR "SORTED" aj;have h3:((bs nm).toList==[78,79,68,69])=false:=cR "NODE" aj;have h4:((bs nm).toList==[83,84,65,67,75])=false:=cR "STACK" aj;have h5:((bs nm).toList==[81,85,69,85,69])=false:=cR "QUEUE" aj;have h6:((bs nm).toList==[69,78,84,82,89])=false:=cR "ENTRY" aj;have h7:((bs nm).toList==[84,65,66,76,69])=false:=cR "TABLE" aj;have h8:((bs nm).toList==[83,69,84])=false:=cR "SET" aj;have h9:((bs nm).toList==[67,79,85,78,84,69,82])=false:=cR "COUNTER" aj;have sG:((bs nm).toList==[82,65,78,71,69])=false:=cR "RANGE" aj;have Oq:((bs nm).toList==[65,82,73,84,72])=false:=cR "ARITH" aj;go_enter func30,ntmps30;exact cQ
def aj4(hk:k < 12):((bs (tL prog k)).toList==([]:List UInt8))=false:=by
 have h:((List.range 12).all fun k=>!(tL prog k).isEmpty)=true:=bh;have:=dV.1 h k (BZ.2 hk);rw[af0]
 cases e:tL prog k with
 |nil=>rw[e] at this;cases this
 |cons=>rfl
def al7(hm:bW nm)(w:World):Calls prog 7 #[nm] w (YE nm w):=by
 by_cases lQ:nm∈eN
 ·refine pQ ?_;intro k hk Xv;subst Xv;have h1:=aj4 hk;have dM:(bs (tL prog k)).size<=4000:=HU;have Uv:(mz:ByteArray).size=1:=rfl;have hc:=ah (fun w=>Jy hk w);obtain⟨NM,BS⟩:∃m,eN.getD k []=m:=⟨_,rfl⟩
  rw[BS] at hc ⊢;replace BS:=ah BS;go_enter func7,ntmps7;go_wp2_with fail;refine(hc _).mono ?_;rintro e w1 ⟨rfl,rfl⟩;go_wp2_with fail;refine bG (B8 rfl _ _ _) rfl ?_;exact .inl ⟨k,hk,BS.symm,rfl,Kept.refl _ _⟩
 ·have hc:=ah (fun w=>V4 hm lQ w);go_enter func7,ntmps7;go_wp2_with fail;refine(hc _).mono ?_;rintro e w1 ⟨rfl,rfl⟩;go_wp2_with fail;refine bG (B8 rfl _ _ _) rfl ?_;exact .inr ⟨lQ,rfl,Kept.refl _ _⟩
def af1(hk:k < 12)(w:World):Calls prog 32 #[(eN.getD k [])] w fun e w'=>∃a c,e=.returned (.slice a (lh k).length c)/\an w w' (.sl (strs (lh k))) (.slice a (lh k).length c)/\Kept aK w w':=by
 match k,hk with
 |0,_=>show Calls prog 32 #[.string fI] w _;go_enter func32,ntmps32;go_wp2;go_ret;exact⟨_,_,rfl,dS (S:=fun b=>w.heap.size<=b) (b:=w) [tx "LINK"] cY (aM _) aj,(Kept.refl aK w).alloc _⟩
 |1,_=>show Calls prog 32 #[.string gG] w _;go_enter func32,ntmps32;go_wp2;go_ret;exact⟨_,_,rfl,dS (S:=fun b=>w.heap.size<=b) (b:=w) [tx "LINK",tx "INTS"] cY (aM _) aj,(Kept.refl aK w).alloc _⟩
 |2,_=>show Calls prog 32 #[.string l8] w _;go_enter func32,ntmps32;go_wp2;go_ret;exact⟨_,_,rfl,dS (S:=fun b=>w.heap.size<=b) (b:=w) [tx "LINK",tx "INTS",tx "SORTED"] cY (aM _) aj,(Kept.refl aK w).alloc _⟩
 |3,_=>show Calls prog 32 #[.string tA] w _;go_enter func32,ntmps32;go_wp2;go_ret;exact⟨_,_,rfl,dS (S:=fun b=>w.heap.size<=b) (b:=w) [tx "NODE"] cY (aM _) aj,(Kept.refl aK w).alloc _⟩
 |4,_=>show Calls prog 32 #[.string BX] w _;go_enter func32,ntmps32;go_wp2;go_ret;exact⟨_,_,rfl,dS (S:=fun b=>w.heap.size<=b) (b:=w) [tx "NODE",tx "STACK"] cY (aM _) aj,(Kept.refl aK w).alloc _⟩
 |5,_=>show Calls prog 32 #[.string BY] w _;go_enter func32,ntmps32;go_wp2;go_ret;exact⟨_,_,rfl,dS (S:=fun b=>w.heap.size<=b) (b:=w) [tx "LINK",tx "QUEUE"] cY (aM _) aj,(Kept.refl aK w).alloc _⟩
 |6,_=>show Calls prog 32 #[.string qz] w _;go_enter func32,ntmps32;go_wp2;go_ret;exact⟨_,_,rfl,dS (S:=fun b=>w.heap.size<=b) (b:=w) [tx "ENTRY"] cY (aM _) aj,(Kept.refl aK w).alloc _⟩
 |7,_=>show Calls prog 32 #[.string od] w _;go_enter func32,ntmps32;go_wp2;go_ret;exact⟨_,_,rfl,dS (S:=fun b=>w.heap.size<=b) (b:=w) [tx "ENTRY",tx "TABLE"] cY (aM _) aj,(Kept.refl aK w).alloc _⟩
 |8,_=>show Calls prog 32 #[.string IV] w _;go_enter func32,ntmps32;go_wp2;go_ret;exact⟨_,_,rfl,dS (S:=fun b=>w.heap.size<=b) (b:=w) [tx "LINK",tx "INTS",tx "SET"] cY (aM _) aj,(Kept.refl aK w).alloc _⟩
 |9,_=>show Calls prog 32 #[.string aX] w _;go_enter func32,ntmps32;go_wp2;go_ret;exact⟨_,_,rfl,dS (S:=fun b=>w.heap.size<=b) (b:=w) [tx "COUNTER"] cY (aM _) aj,(Kept.refl aK w).alloc _⟩
 |10,_=>show Calls prog 32 #[.string oe] w _;go_enter func32,ntmps32;go_wp2;go_ret;exact⟨_,_,rfl,dS (S:=fun b=>w.heap.size<=b) (b:=w) [tx "RANGE"] cY (aM _) aj,(Kept.refl aK w).alloc _⟩
 |11,_=>show Calls prog 32 #[.string og] w _;go_enter func32,ntmps32;go_wp2;go_ret;exact⟨_,_,rfl,dS (S:=fun b=>w.heap.size<=b) (b:=w) [tx "ARITH"] cY (aM _) aj,(Kept.refl aK w).alloc _⟩
def V5(w:World):Calls prog 14 #[] w fun e w'=>∃a c,e=.returned (sV a 12 c)/\an w w' (.sl (strs eN)) (sV a 12 c)/\Kept aK w w':=by go_enter func14,ntmps14;go_wp2;go_ret;exact⟨_,_,rfl,dS (S:=fun b=>w.heap.size<=b) (b:=w) eN cY (aM _) aj,(Kept.refl aK w).alloc _⟩
def af2(nm:List Nat)(w:World)(e:Ending)(w':World):Prop:=
 (∃(k:Nat) (a:Option Addr) (c:Nat),k < 12/\nm=eN.getD k []/\e=.returned (.agg #[.slice a (lh k).length c,oZ])/\an w w' (.sl (strs (lh k))) (.slice a (lh k).length c)/\Kept aK w w')∨
 (nm∉eN/\e=.returned (.agg #[nS,iV 4])/\Kept aK w w')
def aaV(hm:bW nm)(w:World):Calls prog 9 #[nm] w (af2 nm w):=by
 have hb:(w.alloc (cO #[nS,oZ] 30)).heap[w.heap.size]?=some (.cells #[nS,oZ] 30 (0,0)):=ao;have hK:=ah ((Kept.refl aK w).alloc (cO #[nS,oZ] 30));replace hb:=ah hb;by_cases lQ:nm∈eN
 ·refine pQ ?_;intro k hk Xv;subst Xv;have h1:=aj4 hk;have hc:=ah (fun w=>Jy hk w);have hn:=ah (fun w=>af1 hk w);obtain⟨NM,BS⟩:∃m,eN.getD k []=m:=⟨_,rfl⟩
  rw[BS] at hc hn ⊢;replace BS:=ah BS;go_enter func9,ntmps9;go_wp2_with fail;refine(hc _).mono ?_;rintro e w1 ⟨rfl,rfl⟩;go_wp2_with fail;refine(hn _).mono ?_;rintro e w2 ⟨a,c,rfl,hv,K2⟩;have jy:=ah (aJ hb.out K2);have gu:=ah (hK.trans' K2);obtain⟨KA,kB⟩:∃m,(lh k).length=m:=⟨_,rfl⟩
  rw[kB] at hv ⊢;revert hv kB;refine ct ?_;intro hv kB;go_wp2_with (first|refine QW ?_|refine str jy ?_);refine ou (lz _ _ _ #[sV a KA c,oZ] _ _ jy) ?_;have WD:=fH w2 w.heap.size #[sV a KA c,oZ];refine .inl ⟨k,a,c,hk,BS.symm,by rw[kB.out],?_,gu.trans WD fun b hb e=>by omega⟩;rw[kB.out];exact((hv.mono fun b hb _=>(by simpa using hb:w.heap.size+1<=b)).kept WD fun b hb _ e=>by omega).mono fun b hb _=>by omega
 ·have hc:=ah (fun w=>V4 hm lQ w);go_enter func9,ntmps9;go_wp2_with fail;refine(hc _).mono ?_;rintro e w1 ⟨rfl,rfl⟩;go_wp2_with (first|refine QW ?_|refine str hb ?_);refine ou (lz _ _ _ #[nS,iV 4] _ _ hb) ?_;exact .inr ⟨lQ,rfl,hK.trans (fH _ _ _) fun b hb e=>by omega⟩
def al8{w:World}{c:Nat}(hx:an S w (.sl (strs l)) (sV a l.length c))(hl:∀s∈l,bW s)(hn:l.length<=100000){s:List Nat}(hs:bW s):Calls prog 35 #[sV a l.length c,.string (bs s)] w fun e w'=>e=.returned (.bool (decide (s∈l)))/\Kept aK w w':=by
 obtain⟨KL,sc⟩:∃m,l.length=m:=⟨_,rfl⟩
 rw[sc] at hx hn ⊢;revert hx sc;refine ct ?_;intro hx sc;go_enter func35,ntmps35;go_wp2_with fail;go_loopg [5] KL (fun gg s5 wr=>∃k:Nat,s5=iV k/\k+gg=KL/\Hid (s∉l.take k)/\Hid (Kept aK w wr))
 case atStart=>exact⟨0,rfl,by omega,fun h=>(by simp at h),Kept.refl _ _⟩
 case round=>
  obtain⟨k,rfl,hk,hnk,hK⟩:=hrel;by_cases bQ:k < KL
  ·obtain⟨z,hz⟩:∃z,l[k]?=some z:=⟨_,ck Bo⟩
   have hzS:=hl z (cm hz);obtain⟨g3,aoJ,eg,Bk,Sx,qp,NF⟩:=hx.out.elem (k:=k) (row:=[.str z]) Ho;obtain⟨c3,Sx,rfl,v3,r3⟩:=qp.aG
   cases r3.jO;cases v3.bq;subst eg;have q3:=hK.aq (NF 0 _ rfl) (fun e=>e);have h3:([T.str z]:Row).length=1:=rfl;rw[h3,fS,B6] at q3;have ij:(k:Int) < (KL:Int):=ab;have I6:(0:Int)<=(k:Int):=ab;have heq:=cH hzS hs;have etz:l.take (k+1)=l.take k++[z]:=HS;by_cases he:z=s
   ·have hee:(z==s)=true:=by simpa using he
    rw[hee] at heq;have lQ:s∈l:=he▸cm hz;revert hz etz;refine ct ?_;intro hz etz;subst he;replace lQ:=ah lQ;go_wp2_with fail;go_ret;exact⟨by rw[B4 lQ.out];rfl,hK⟩
   ·have hee:(z==s)=false:=by simpa using he
    rw[hee] at heq;revert hz etz;refine ct ?_;intro hz etz;go_wp2_with fail;go_roundg (gk - 1)
    case measure=>omega
    case rel=>exact⟨k+1,by simp,by omega,by rw[etz.out];exact fun h=>(oU.1 h).elim hnk fun h=>he (JH.1 h).symm,hK⟩
  ·have hkK:k=KL:=by omega
   have eK:s∉l:=by have h:=hnk.out;rwa[oh Bo] at h
   have ij:¬(k:Int) < (KL:Int):=ab;replace eK:=ah eK;go_wp2_with fail;go_ret;exact⟨by rw[B5 eK.out];rfl,hK⟩
def OS.apps{l2:List (List Nat)}{ops:Array Oper}{a:Act}{Q:Exit->Act->World->Prop}(hg:o.guard=none)(s x:Operand)(o7:o.op=Op.call {callee:=Callee.builtin Builtin.append,args:=#[s,x],argTypes:=#[22,22]})
  (h:OS W V v l) (hs:a.eval s=v) {ad:Option Addr} {m c:Nat} (hx:a.eval x=sV ad m c) (hW:W.heap.size<=V.heap.size) (hl:l.length+l2.length<=1000000)
  (hv:an (fun b=>W.heap.size<=b/\v.ownBlock≠some b) V (.sl (strs l2)) (sV ad m c))
  (hK:∀v' V',OS W V' v' (l++l2)->Kept (fun j=>W.heap.size<=j) V V'->wpList prog ops Q rest (a.put o.dst v') V'):wpList prog ops Q (o::rest) a V:=by
 obtain⟨i,hi,hz,dM,dY⟩:=dN aoy;refine kZ (P:=prog) underlying22 hi hz dM dY rfl ab ab hg s x o7 hs hx h hW (by simpa[strs] using hl) (fun row hr=>?_) hv ?_
 ·obtain⟨z,-,rfl⟩:=dO.1 hr;rfl
 ·intro v' V' h1 h2 _;have e:strs l++strs l2=strs (l++l2):=bR;rw[e] at h1;exact hK v' V' h1 (h2.mono fun b hb=>(OwnR.lt h b hb).1)
def af3:∀s∈mS ns,bW s:=fun s hs=>by
 obtain⟨n,-,h⟩:=List.mem_flatMap.1 hs;exact BG s (Uc.1 h).1
def aco(ns:List (List Nat)):(mS ns).length<=ns.length*12:=by
 induction ns with
 |nil=>simp[mS]
 |cons n ns ih=>unfold mS at*;rw[rz,j0,dC];have:(lh (eN.idxOf n)).length<=12:=Qs _ _;omega
def Ni(hk:k < 12)(Md:s=eN.getD k []):eN.idxOf s=k/\s∈eN:=by
 have:=Tr hk (nm:=s) Md.symm;have lQ:s∈eN:=by rw[Md,rA,ck (show k < eN.length from hk)];exact Ug _
 unfold ixZ at this;rw[aI lQ] at this;exact⟨by omega,lQ⟩
def aiX(hi:i<=12):(mF prog ((List.range i).filter fun k=>decide (eN.getD k []∈A))).length<=12*4001:=by unfold mF QC;exact Nb
def af4:mF prog ((List.range (i+1)).filter fun k=>decide (eN.getD k []∈A))=if eN.getD i []∈A then mF prog ((List.range i).filter fun k=>decide (eN.getD k []∈A))++(tL prog i++[10]) else mF prog ((List.range i).filter fun k=>decide (eN.getD k []∈A)):=by rw[List.range_succ,List.filter_append];exact C4
def aoL(x0 x1 x2 x3:Value)(w:World):(Instr.field 44 (.agg #[x0,x1,x2,x3]) 0).run prog w=.ok x0 w:=by kernel_rfl
abbrev z36:Obj:=.cells #[nS,oZ] 36
def YI{c:Nat}{w:World}(hx:an S w (.sl (strs ns)) (sV a ns.length c))(bL:∀s∈ns,bW s)(hn:ns.length<=60)(Q:Ending->World->Prop)(h40:40 < ns.length->∀w',Kept aK w w'->Q (.returned (.agg #[nS,iV 3])) w')(eK:ns.length<=40->(∃s∈ns,s∉eN)->∀w',Kept aK w w'->Q (.returned (.agg #[nS,iV 4])) w')(afX:ns.length<=40->(∀s∈ns,s∈eN)->∀w1,Kept aK w w1->w.heap.size < w1.heap.size->Calls prog 16 #[(mF prog (PK (mS ns)))] w1 fun e w'=>∃a n c,e=.returned (.agg #[sV a n c,oZ,oZ,oZ])/\Kept aK w1 w'/\∀w2,Kept (fun b=>b=w.heap.size) w' w2->Q (.returned (.agg #[sV a n c,oZ])) w2):Calls prog 11 #[sV a ns.length c] w Q:=by
 obtain⟨KN,hKN⟩:∃m,ns.length=m:=⟨_,rfl⟩
 rw[hKN] at hx hn h40 eK afX ⊢;have hb:Hid ((w.alloc z36).heap[w.heap.size]?=some z36):=ah ao;have j8:=ah ((Kept.refl aK w).alloc z36);by_cases h4:40 < KN
 ·have al2:=ah (h40 h4);have h41:(40:Int) < (KN:Int):=ab;go_enter func11,ntmps11;go_wp2_with (first|refine QW ?_|refine str hb ?_);refine ou (lz _ _ _ #[nS,iV 3] _ _ hb) ?_;exact al2 _ (j8.trans (fH _ _ _) fun b hb e=>by omega)
 ·have al3:=ah (eK ab);have afY:=ah (afX ab);have h41:¬(40:Int) < (KN:Int):=ab;revert hx hKN;refine ct ?_;intro hx hKN;go_enter func11,ntmps11;go_wp2_with fail;go_loopg [3,4] KN (fun gg s3 s4 wr=>∃j:Nat,s4=iV j/\j+gg=KN/\Hid (∀s∈ns.take j,s∈eN)/\Hid (OS (w.alloc z36) wr s3 (mS (ns.take j)))/\Hid (Kept aK (w.alloc z36) wr))
  case atStart=>exact⟨0,rfl,by omega,fun s h=>(by simp at h),OwnR.nil,Kept.refl _ _⟩
  case round=>
   obtain⟨j,rfl,hj,mu,hO,hK⟩:=hrel;obtain⟨GO,hGO⟩:∃x,Hid (x=gk):=⟨_,ah rfl⟩
   obtain⟨a0,c0',rfl⟩:=hO.out.form;obtain⟨WL,hWL⟩:∃l,mS (ns.take j)=l:=⟨_,rfl⟩
   have aqR:WL.length<=480:=by
    rw[<-hWL];refine cn (aco _) ?_;have:(ns.take j).length<=40:=by rw[sK];have:=hKN.out;omega
    omega
   rw[hWL] at hO;by_cases bQ:j < KN
   ·obtain⟨s,hs⟩:∃s,ns[j]?=some s:=⟨_,ck kQ⟩
    have hsS:=bL s (cm hs);obtain⟨g',off,eg,-,cs,hR,hc⟩:=hx.out.elem (k:=j) (row:=[.str s]) Lo;obtain⟨c0,Ap,rfl,v0,r0⟩:=hR.aG
    cases r0.jO;cases v0.bq;subst eg;have q0:=(j8.trans' hK).aq (hc 0 _ rfl) (fun e=>e);revert hs q0;refine Gh ?_;intro q0 h1 xY oL hs etk;rw[hWL];replace hWL:=ah hWL;go_wp2_with fail;refine(aaV hsS _).mono ?_;rintro e w1 (⟨k,a1,c1,hk,Md,rfl,hv,K1⟩|⟨al4,rfl,K1⟩)
    ·have hix:=(Ni hk Md).1;have lQ:=(Ni hk Md).2;have Io:=ah (hK.trans' K1);have U8:=ah ((hO.no K1).no ((Kept.refl aK w1).alloc (cO #[.slice a1 (lh k).length c1,oZ] 30)));have LH:Hid (an (fun b=>(w.alloc z36).heap.size<=b/\(Value.slice a0 WL.length c0').ownBlock≠some b) (w1.alloc (cO #[.slice a1 (lh k).length c1,oZ] 30)) (.sl (strs (lh k))) (.slice a1 (lh k).length c1)):=ah ((hv.kept ((Kept.refl aK w1).alloc (cO #[.slice a1 (lh k).length c1,oZ] 30)) (fun _ _ _ e=>e)).mono fun b hb _=>⟨cn hK.size hb,fun e=>by have:=(OwnR.lt hO b e).2;have hb':wr.heap.size<=b:=hb;omega⟩);have aj3:(lh k).length<=12:=Qs _ _;obtain⟨AL,hAL⟩:∃l,lh k=l:=⟨_,rfl⟩
     rw[hAL] at LH U8 aj3 ⊢;have N7:=ah K1.size;have etw:mS (ns.take (j+1))=WL++AL:=by rw[etk.out,<-hWL.out,<-hAL];unfold mS;rw[Qt,rz,List.flatMap_nil,gp,hix]
     revert hAL etw;refine ct ?_;intro hAL etw;go_wp2_with (at_builtin;refine OS.apps rfl (.tmp 31) (.tmp 33) rfl U8 rfl rfl (by have:=Io.size;simp at this ⊢;omega) ab LH ?_;intro v4 w4 T5 yu;obtain⟨a5,c5,rfl⟩:=T5.form;obtain⟨K5,hK5⟩:∃m,(WL++AL).length=m:=⟨_,rfl⟩;rw[hK5] at T5 ⊢;replace hK5:=ah hK5);go_roundg (GO - 1)
     case measure=>have:=hGO.out;omega
     case rel=>refine⟨j+1,by simp,by have:=hGO.out;omega,fun t ht=>?_,by rw[etw.out];exact T5,(Io.alloc _).trans yu fun b hb e=>by omega⟩;exact J3
    ·have lL:=ah (aJ (aJ (aJ hb hK) K1) ((Kept.refl aK w1).alloc (cO #[nS,iV 4] 30)));have Io:=ah (((j8.trans' hK).trans' K1).alloc (cO #[nS,iV 4] 30));go_wp2_with (first|refine QW ?_|refine str lL ?_);refine ou (lz _ _ _ #[nS,iV 4] _ _ lL) ?_;exact al3 ⟨s,cm hs,al4⟩ _ (Io.trans (fH _ _ _) fun b hb e=>by omega)
   ·have hjk:j=KN:=by omega
    have QM:ns.take j=ns:=oh kQ;rw[QM] at mu hWL;have xY:¬(j:Int) < (KN:Int):=ab;have O2:=ah (afY mu.out);subst hWL;obtain⟨A,hAe⟩:∃A,mS ns=A:=⟨_,rfl⟩
    have al9:∀s∈A,bW s:=hAe▸af3;rw[hAe] at O2 hO aqR;have ama:mS (ns.take j)=A:=by rw[QM];exact hAe
    rw[ama];obtain⟨NA,hNA⟩:∃m,A.length=m:=⟨_,rfl⟩
    have aoM:=ah (fun(V:World) (hk:Kept aK wr V) (s:List Nat) (hs:bW s)=>al8 (hO.cell.kept hk (fun _ _ _ e=>e)) al9 ab hs);rw[hNA] at aoM ⊢;revert hAe al9 ama hNA;refine jU ?_;intro hAe al9 ama hNA;have hKr:=ah (j8.trans' hK.out);have lW:=ah (aJ hb.out hK.out);have hwr:Hid (w.heap.size < wr.heap.size):=ah (aQ.1 lW.out).1;go_wp2_with fail;refine(V5 _).mono ?_;rintro e w1 ⟨ga,gc,rfl,hv,K1⟩;revert hv K1;refine ct ?_;intro hv K1;go_wp2_with fail;go_loopg [6,8] 12 (fun gi s6 s8 wi=>∃i:Nat,s8=iV i/\i+gi=12/\Hid (s6=.string (bs (mF prog ((List.range i).filter fun k=>decide (eN.getD k []∈A)))))/\Hid (Kept aK w1 wi))
    case atStart=>exact⟨0,rfl,rfl,rfl,Kept.refl _ _⟩
    case round=>
     obtain⟨i,rfl,hi,L7,zF⟩:=hrel;have aiW:=aiX (A:=A) (show i<=12 by omega);have nn:=af4 (A:=A) (i:=i);obtain⟨SR,V3⟩:∃s,mF prog ((List.range i).filter fun k=>decide (eN.getD k []∈A))=s:=⟨_,rfl⟩
     rw[V3] at L7 aiW nn;have afZ:=L7.out;subst afZ;have Uv:(bs SR).size<=48012:=by rw[dp];exact aiW
     by_cases hli:i < 12
     ·obtain⟨NM,BS⟩:∃m,eN.getD i []=m:=⟨_,rfl⟩
      have hni:bW NM:=BS▸ID hli;obtain⟨g3,aoJ,eg,Bk,Sx,qp,NF⟩:=hv.out.elem (k:=i) (row:=[NM]) (by unfold strs;rw[List.getElem?_map,<-BS,List.getD_eq_getElem?_getD,List.getElem?_eq_getElem (show i < eN.length from hli)];rfl);obtain⟨c3,Sx,rfl,v3,r3⟩:=qp.aG
      cases r3.jO;cases v3.bq;subst eg;have q3:=zF.aq (NF 0 _ rfl) (fun e=>e);have h3:([T.str NM]:Row).length=1:=rfl;rw[h3,fS,B6] at q3;have ij:(i:Int) < 12:=ab;have I6:(0:Int)<=(i:Int):=ab;have pD:(bs (tL prog i)).size<=4000:=HT;have sY:(mz:ByteArray).size=1:=rfl;have hcd:=ah (aoM wr (K1.trans' zF) NM hni);have aoN:=ah (fun w=>Jy hli w);rw[BS] at nn aoN;revert V3 nn BS;refine jk ?_;intro V3 nn BS;go_wp2_with fail;refine hcd.mono ?_;rintro e w2 ⟨rfl,K2⟩;have q4:=K2.aq q3 (fun e=>e);have gu:=ah (zF.trans' K2);by_cases lQ:NM∈A
      ·rw[B4 lQ];go_wp2_with (go_at_call 30;refine(aoN _).mono ?_;rintro e w3 ⟨rfl,rfl⟩);go_roundg (gk - 1)
       case measure=>omega
       case rel=>exact⟨i+1,by simp,by omega,by rw[nn.out,aI lQ];show _=_;rw[show(mz:ByteArray)=bs [10] from rfl,O0,O0,I5],gu⟩
      ·rw[B5 lQ];go_wp2_with fail;go_roundg (gk - 1)
       case measure=>omega
       case rel=>exact⟨i+1,by simp,by omega,by rw[nn.out,aE lQ];rfl,gu⟩
     ·have al6:i=12:=by omega
      subst al6;have L5:PK A=(List.range 12).filter fun k=>decide (eN.getD k []∈A):=rfl;rw[<-L5] at V3;rw[V3] at O2;replace V3:=ah V3;have Il:=ah (aJ (aJ lW K1) zF);go_wp2_with fail;refine(O2 _ ((hKr.trans' K1).trans' zF) (by have:=hwr.out;have:=K1.size;have:=zF.size;omega)).mono ?_;rintro e w2 ⟨a3,n3,c3,rfl,K2,hQ⟩;have jV:=ah (aJ Il.out K2);replace hQ:=ah hQ;have hf:=aoL (sV a3 n3 c3) (iV 0) (iV 0) (iV 0);go_wp2_with (first|refine QW ?_|refine str jV ?_);refine ou (lz _ _ _ #[sV a3 n3 c3,oZ] _ _ jV) ?_;exact hQ _ (fH _ _ _)
def acr(s:List Nat)(hs:bW s)(hl:s.length<=1000000)(w:World):Calls prog 40 #[s] w fun e w'=>∃x y:Int,e=.returned (.agg #[x,y])/\Kept aK w w':=by have hz:=dp s;have hpl:=ah (fun w=>acq s hs hl w);have hb:(w.alloc (.cells #[oZ,oZ] 42)).heap[w.heap.size]?=some (.cells #[oZ,oZ] 42):=ao;have hK:=ah ((Kept.refl aK w).alloc (cO #[oZ,oZ] 42));replace hb:=ah hb;go_enter func40,ntmps40;go_wp2_with fail;refine(hpl _).mono ?_;rintro e w1 ⟨x,y,rfl,K⟩;have lL:=aJ hb K;have Io:=ah (hK.trans' K);go_wp2_with (refine str lL ?_);refine ou (lz _ _ _ #[x,y] _ _ lL) ?_;exact⟨x,y,rfl,Io.trans (fH _ _ _) lJ⟩
def PS.make{cap:Nat}{ga:Option Addr}(Vg:L.length≠0->ga=some ⟨g,0,none⟩){x y:Int}{T:TypeId}{r6 r7 r8:Value}(hb:V.heap[p]?=some (.cells #[sV ga L.length cap,oZ,x,y,nS,false,r6,r7,r8] T (0,0)))(hL:∀t∈L,bW t.t/\shape t.t=some t.k)(h6:L.length<=6000)(ht:wK V g 0 L)(hg:g < V.heap.size)(cR:g≠p):
  PS ⟨p,g,L,[],sV none 0 0,V.heap.size,some (.bool false),ga⟩ V L:=
 ⟨hL,h6,⟨cap,aC hb 0,Vg⟩,⟨0,by simp,rfl,aC hb 1⟩,⟨x,y,aC hb 2,aC hb 3⟩,aC hb 4,fun v e=>by cases e;exact aC hb 5,al hb,cR,(aQ.1 hb).1,hg,aM _,ht,.nil⟩
def wK.kept(h:wK V g 0 L)(hk:Kept aK V W)(hg:g < V.heap.size):wK W g 0 L:=fun k t ht=>by
 have hc:∀j,W.cell? ⟨g,j,none⟩=V.cell? ⟨g,j,none⟩:=fun j=>hk.cell (p:=⟨g,j,none⟩) hg (fun e=>e);have:=h k t ht;simp only[hc];exact this
def acs{F f N:Nat}(dx:F<=6000)(I9:f<=6000)(s:List Nat)(hs:bW s)(hsl:s.length<=20000){FL:Nat}{L:List aF}(WH:qQ FL s=some L)(h6:L.length<=6000)(hL:∀t∈L,bW t.t/\shape t.t=some t.k){rows:List Row}(hx:Aa F f N L=some rows)(h24:rows.length<=24)(w:World):Calls prog 16 #[s] w fun e w'=>∃a c,e=.returned (.agg #[sV a rows.length c,oZ,oZ,oZ])/\an w w' (.sl rows) (sV a rows.length c)/\(∀row∈rows,row.length=7)/\Kept aK w w':=by
 have tR:=ah (fun w=>YL s hs hsl WH h6 w);have Pk:=ah (fun w=>acr s hs ab w);have hb:(w.alloc (.cells #[nS,oZ,oZ,oZ] 44)).heap[w.heap.size]?=some (.cells #[nS,oZ,oZ,oZ] 44):=ao;have hK:=ah ((Kept.refl aK w).alloc (cO #[nS,oZ,oZ,oZ] 44));revert h6 hL hx h24 hb;refine nx ?_;intro h6 hL hx h24 hb;go_enter func16,ntmps16;go_wp2_with fail;refine(tR _).mono ?_;rintro e w1 ⟨g,ga,cap,Vg,rfl,ht,PE,Of,K⟩;replace Vg:=ah Vg;have aoS:w.heap.size+1<=g:=by simpa using PE
 obtain⟨W1,hW1⟩:∃W1,W1=w1.alloc (cO #[sV ga L.length cap,nS,oZ,oZ,oZ] 86):=⟨_,rfl⟩
 have K1:Kept aK w1 W1:=by rw[hW1];exact(Kept.refl _ _).alloc _
 have iF:W1.heap[w1.heap.size]?=some (.cells #[.slice ga L.length cap,nS,oZ,oZ,oZ] 86):=by rw[hW1,heap_alloc,aI rfl]
 obtain⟨c0,-,-,-,c4,-⟩:=cc iF;have ht1:=ht.kept K1 Of;have hgW:g < W1.heap.size:=qD Of K1.size;have hbW:=aJ (aJ hb K) K1;have dZ:=(hK.trans' K).trans' K1;rw[hW1] at c4 c0;revert aoS hW1 ht1 hgW hbW dZ;refine LX ?_;intro aoS hW1 ht1 hgW hbW dZ;go_wp2_with fail;rw[<-hW1.out] at c0 ⊢;refine aY [some 16,some 17,some 18,some 19,some 20,some 21,some 4] [0,1,2,3,4,5,6] (A:=?_) (fun lb u V=>(Kept aK W1 V/\(lb 3=true->∃x y:Int,u 3=.agg #[x,y]/\(lb 4=true->u 4=.agg #[sV ga L.length cap,oZ,x,y,nS,false,oZ,oZ,oZ])/\(lb 5=true->∃p,u 5=.pointer (some ⟨p,0,none⟩)/\W1.heap.size<=p/\V.heap[p]?=some (.cells #[sV ga L.length cap,oZ,x,y,nS,false,oZ,oZ,oZ] 91 (0,0))/\(lb 6=true->u 6=.pointer (some ⟨p,0,none⟩)))))/\VT [some (.pointer w1.heap.size),some (sV ga L.length cap),some (.string (bs s)),none,none,none,none] lb u) af af (fun u=>?_) (fun lb u h0=>⟨⟨(Kept.refl aK W1).drew,fun e=>qf⟩,VT.none rfl h0⟩) ?_ (fun lb u V hl hI=>?_);rotate_left
 ·exact bK
 ·repeat' first|apply Bm.be.cons|exact Bm.be.nil
  all_goals intro lb u V K hl hn hf hI j8
  ·exact eV
  ·have e0:=hI.2 0 _ rfl (hn 0 af);have d:=hI.1.1.aq c0 (fun e=>e);exact uq
  ·exact Et
  ·have e2:=hI.2 2 _ rfl (hn 2 af);go_simp;refine(Pk _).mono ?_;rintro e wA ⟨x,y,rfl,KA⟩;dsimp only;exact j8 _ _ _ ⟨⟨hI.1.1.trans' KA,fun _=>⟨x,y,rfl,fun e=>tV,fun e=>iM⟩⟩,hI.2.no 3⟩ ki
  ·have e1:=hI.2 1 _ rfl (hn 1 af);obtain⟨x,y,e3,-⟩:=hI.1.2 (hn 3 af);go_simp;exact j8 _ _ _ ⟨⟨hI.1.1,fun _=>⟨x,y,e3,fun _=>rfl,fun e=>iM⟩⟩,hI.2.no 4⟩ (by rw[e1,e3];try rfl)
  ·obtain⟨x,y,e3,e4,-⟩:=hI.1.2 (hn 3 af);replace e4:=e4 (hn 4 af);go_simp;exact j8 _ _ _ ⟨⟨hI.1.1.alloc _,fun _=>⟨x,y,e3,fun _=>e4,fun _=>⟨_,rfl,hI.1.1.size,by rw[heap_alloc,aI rfl],fun e=>vS⟩⟩⟩,hI.2.no 5⟩ wm
  ·obtain⟨x,y,e3,e4,h5⟩:=hI.1.2 (hn 3 af);obtain⟨p,e5,hp,hbp,-⟩:=h5 (hn 5 af);replace e4:=e4 (hn 4 af);go_simp;exact j8 _ _ _ ⟨⟨hI.1.1,fun _=>⟨x,y,e3,fun _=>e4,fun _=>⟨p,e5,hp,hbp,fun _=>rfl⟩⟩⟩,hI.2.no 6⟩ (by rw[e3,e4,e5];try rfl)
 obtain⟨KV,h3⟩:=hI.1;obtain⟨x,y,e3,e4,h5⟩:=h3 (hl 3 aj);obtain⟨p,e5,hp,hbp,e6⟩:=h5 (hl 5 aj);replace e6:=e6 (hl 6 aj);have P:=PS.make Vg hbp hL h6 (ht1.kept KV hgW) (qD hgW KV.size) (by have:=hgW.out;omega);have zp:=aJ hbW KV;have jl:=dZ.trans' KV;have hbl:=(aQ.1 hb).1;have hwp:w.heap.size < p:=by have:=(aQ.1 hbW).1;omega
 rw[e6];revert zp jl hwp;refine jk ?_;intro zp jl hwp;go_wp2_with fail;refine(LR dx I9 (most:=24) P rfl hx h24 ab).mono ?_;rintro e w2 ⟨⟨a,c,rfl,Zr,hlen⟩,⟨fs,fv,Bd,P2⟩,K2⟩;have d5:w2.cell? ⟨p,5,none⟩=some (.bool false):=P2.c5 _ rfl;have jy:=(K2.block _ (aQ.1 zp).1 (fun e=>by have:=hwp.out;have e':w.heap.size=p:=e;omega)).trans zp;have gu:=jl.trans K2 (fun b bQ e=>by have:=hwp.out;have e':b=p:=e;omega);replace hlen:=ah hlen;have dM:=jl.size;have aqV:=ah (Zr.mono (S':=fun b=>w.heap.size < b) fun b hb _=>by have:=(aQ.1 zp).1;omega);replace gu:=ah gu;go_wp2_with (first|refine QW ?_|refine str jy ?_);have kr:=fH w2 w.heap.size #[sV a rows.length c,oZ,oZ,oZ];refine ou (lz _ _ _ #[sV a rows.length c,oZ,oZ,oZ] _ _ jy) ?_;exact⟨a,c,rfl,(aqV.kept kr dH).mono (fun b hb _=>by omega),hlen,gu.trans kr lJ⟩
def ai0{α β:Type}{R:α->β->Prop}{l:List α}{m:List β}(h:F2 R l m){a:α}{b:β}(hab:R a b):F2 R (l++[a]) (m++[b]):=by
 induction h with
 |nil=>exact .cons hab .nil
 |cons h1 _ ih=>exact .cons h1 ih
def acu{w:World}(L:List aF)(hL:∀t∈L,bW t.t/\t.t.length<=1000000/\shape t.t=some t.k){x:Value}(hx:an S w (.sl (strs (L.map (·.t)))) x)(h6:L.length<=100000):Calls prog 117 #[x] w fun e w'=>∃v rows,e=.returned (.tuple #[v,true])/\OwnR w.heap.size w w' 187 4 v rows/\F2 Yf L rows/\Kept aK w w':=by
 obtain⟨a,cap,rfl,-⟩:=hx.aU;have rG:(strs (L.map (·.t))).length=L.length:=bR;rw[rG] at hx ⊢;obtain⟨i0,hi,hz,dM,dY⟩:=dN Te;revert hL hx hi hz dM dY;refine LX ?_;intro hL hx hi hz dM dY;go_enter func117,ntmps117;go_wp2_with fail;go_loopg [4,5] L.length (fun gg s4 s5 wr=>∃(k:Nat) (rows:List Row),s5=iV k/\k+gg=L.length/\Hid (OwnR w.heap.size w wr 187 4 s4 rows)/\Hid (F2 Yf (L.take k) rows)/\Hid (Kept aK w wr))
 case atStart=>exact⟨0,[],rfl,by omega,OwnR.nil,.nil,Kept.refl _ _⟩
 case round=>
  obtain⟨j,rows,rfl,zC,hO,hF,hK⟩:=hrel;by_cases hj:j < L.length
  ·obtain⟨t,ht⟩:∃t,L[j]?=some t:=⟨_,ck hj⟩
   obtain⟨g,off,rfl,-,cs,hR,fY⟩:=hx.out.elem (k:=j) (row:=[.str t.t]) (by simp[strs,ht]);obtain⟨c0,Ap,rfl,v0,-⟩:=hR.aG
   cases v0.bq;have jS:(j:Int) < (L.length:Int):=ab;have sQ:(0:Int)<=(j:Int):=ab;have hq:w.cell? ⟨g,off+j,none⟩=some (.string (bs t.t)):=kg;have q1:=hK.aq hq fun e=>e;replace hq:=ah hq;obtain⟨h1,h2,h3⟩:=hL.out t (cm ht);have eF:=ah (fun w=>Qw h1 h2 h3 w);have hF2:Hid (F2 Yf (L.take (j+1)) (rows++[[.int t.k,.str t.t,.int 0,.int 0]])):=by rw[wZ,ht];exact ai0 hF ⟨0,0,rfl⟩
   have UA:rows.length<=100000:=by rw[<-ee hF.out];simp;omega
   replace ht:=ah ht;go_wp2_with fail;refine bD (eF _) fun w1 K1=>?_;have U8:=hO.kept K1 (fun _ _ _ e=>e) (fun _ _ e=>e);have Io:=ah (hK.trans' K1);replace U8:=ah U8;have z0:=aC (show(w1.alloc (.cells #[.int .i64 t.k,oZ] 192)).heap[w1.heap.size]?=some (.cells #[.int .i64 t.k,oZ] 192) by rw[heap_alloc,aI rfl]) 0;have z1:=bc (show(w1.alloc (.cells #[.int .i64 t.k,oZ] 192)).heap[w1.heap.size]?=some (.cells #[.int .i64 t.k,oZ] 192) by rw[heap_alloc,aI rfl]) 1;go_wp2_with fail;obtain⟨W,hW⟩:∃W,w1.alloc (cO #[iV t.k,oZ] 192)=W:=⟨_,rfl⟩
   have y0:W.cell? ⟨w1,0,none⟩=some (iV t.k):=hW▸z0;have dZ:Kept aK w1 W:=hW▸(Kept.refl aK w1).alloc _;have qY:=U8.kept dZ (fun _ _ _ e=>e) (fun _ _ e=>e);have gu:=ah (Io.trans' dZ);have y1:=gu.aq hq fun e=>e;rw[hW];revert y0 qY y1;refine jk ?_;intro y0 qY y1;refine jB 9 [(0,0),(1,0),(2,0),(3,0),(4,0),(5,0),(6,0),(7,0),(8,1),(9,2),(10,2)] (fun V=>Kept aK W V) af af (fun _ _ _ _ _ h=>h) (Kept.refl aK W).drew ?_;iterate 8 ((first|refine Q8 ?_|(refine Q7 (v:=?_) ?_ (fun V s=>?_);rotate_right; · (have e0:=s.aq y0.out (fun e=>e);have e1:=s.aq y1.out (fun e=>e);go_simp);with_reducible rfl));try simp only[Act.put,ma,mb,lj])
   refine afI (fun K hK=>?_);go_simp;refine hK _ _ ((Kept.refl aK W).drew.alloc _) ?_;refine sp ?_;refine qM (fun K hK=>?_);have Ah:Hid (OwnR w.heap.size w (W.drew.alloc (.cells [.int .i64 t.k,.string (bs t.t),.int .i64 0,.int .i64 0].toArray 187)) 187 4 u4 rows):=qY.kept ((Kept.refl aK W).drew.alloc _) (fun _ _ _ e=>e) (fun _ _ e=>e);have K9:=(Kept.refl aK W).drew.alloc (.cells [.int .i64 t.k,.string (bs t.t),.int .i64 0,.int .i64 0].toArray 187);have hB9:w.heap.size<=(W.drew.alloc (.cells [.int .i64 t.k,.string (bs t.t),.int .i64 0,.int .i64 0].toArray 187)).heap.size:=cn gu.size K9.size;refine eh rfl (kb (P:=prog) underlying84 hi hz dM dY rfl ab ab (.tmp 21) (.tmp 29) rfl rfl ⟨W,0,none⟩ 1 rfl [iV t.k,.string (bs t.t),oZ,oZ] [.int t.k,.str t.t,.int 0,.int 0] Ah hB9 ab rfl eH (.cons (.int _) (.cons (.str _) (.cons (.int _) (.cons (.int _) .nil)))) ?_);intro v' W' iH A8 IN;refine hK _ _ ?_;refine sp ?_;refine qM (fun K hK=>?_);go_simp;refine hK _ _ ?_;refine sp ?_;refine NT ?_;go_wp2_with fail;go_roundg (gk - 1)
   case measure=>omega
   case rel=>exact⟨j+1,_,rfl,by omega,iH,hF2,(gu.trans' K9).trans A8 fun i hi e=>by have:=(Ah.lt i e).1;omega⟩
  ·have jS:¬((j:Int) < (L.length:Int)):=by omega
   rw[oh ab] at hF;go_wp2_with fail;refine bG (B8 rfl _ _ _) rfl ?_;exact⟨_,rfl,rows,hO,hF,hK⟩
def an.dt{w:World}{t:T}{x:Value}(h:an S w t x)(hk:Kept aK w V)(hp:w.heap.size<=p):an (Dt p (sV none 0 0)) V t x:=
 ((h.mono (S':=fun b=>b < w.heap.size) fun _ _ hl=>hl).kept hk fun _ _ _ e=>e).mono fun b hb _=>⟨by omega,by simp[Value.ownBlock]⟩
def OwnR.aoX{w:World}{rows:List Row}{E:TypeId}{wd:Nat}(h:OwnR 0 (fun _=>False) w E wd v rows):an (fun _=>True) w (.sl rows) v:=h.afp (fun _ _ _=>bw) fun _ _=>bw
def Qi{F f h:Nat}(dx:F<=6000)(I9:f<=6000)(hgh:2*g<=h){S:Nat->Prop}{w:World}{nm:List Nat}{fo pa fe iv:List Row}{cr:List (List Nat)}{cs:List Value}(hR:aP S w [nm,false,fo,pa,(strs cr),fe,iv] cs)(ho:afJ g h fo pa fe iv)(hS:shK k [nm,false,fo,pa,(strs cr),fe,iv]=true)(hD:Ii 116 [nm,false,fo,pa,(strs cr),fe,iv])(L:List aF)(hLt:L.map (·.t)=yP h [.str nm,.bool false,.sl fo,.sl pa,.sl (strs cr),.sl fe,.sl iv])(hL:∀t∈L,bW t.t/\t.t.length<=1000000/\shape t.t=some t.k)(h6:L.length<=6000)(cR:L≠[])(hx:Aa F f 2 L=some [[.str nm,.bool false,.sl fo,.sl pa,.sl (strs cr),.sl fe,.sl iv]]):Calls prog 73 #[.agg cs.toArray] w fun e w'=>e=.returned (iV 0)/\Kept aK w w':=by
 obtain⟨a2,c2,a3,c3,a4,c4,a5,c5,a6,c6,rfl,v2,v3,v4,v5,v6,-⟩:=hR.nl;have nB:(w.alloc (.cells #[nm,false,.slice a2 fo.length c2,.slice a3 pa.length c3,.slice a4 (strs cr).length c4,.slice a5 fe.length c5,.slice a6 iv.length c6] 83)).heap[w.heap.size]?=some (.cells #[nm,false,.slice a2 fo.length c2,.slice a3 pa.length c3,.slice a4 (strs cr).length c4,.slice a5 fe.length c5,.slice a6 iv.length c6] 83):=ao;have j8:=(Kept.refl aK w).alloc (cO #[nm,false,sV a2 fo.length c2,sV a3 pa.length c3,.slice a4 (strs cr).length c4,sV a5 fe.length c5,sV a6 iv.length c6] 83);have hd:=hD S _ _ ⟨nm,a2,a3,a4,a5,a6,_,c2,_,c3,_,c4,_,c5,_,c6,rfl,hR.kept j8 fun _ _ _ e=>e⟩;have hwl:(yP h [nm,false,fo,pa,(strs cr),fe,iv]).length<=6000:=by rw[<-hLt];simpa using h6
 revert hLt hL cR hx hR v2 v3 v4 v5 v6 nB j8 hd hwl;refine amO ?_;intro hLt hL cR hx hR v2 v3 v4 v5 v6 nB j8 hd hwl;go_enter func73,ntmps73;go_wp2_with (refine T6 nB ?_);refine hd.mono ?_;rintro e w1 ⟨n,rfl,hn,K1⟩;have h40:¬(40:Int) < (n:Int):=ab;have ey:=ah K1.size;have N7:Hid (w.heap.size < w1.heap.size):=by have:=K1.size;simp at this;exact this
 have lL:=aJ nB (K1.alloc (cO #[nS] 96));have Io:=ah ((j8.trans' K1).alloc (cO #[nS] 96));have hp:(w1.alloc (.cells #[nS] 96)).heap[w1.heap.size]?=some (.cells #[nS] 96):=ao;have hq:WQ w1.heap.size (sV none 0 0) (w1.alloc (cO #[nS] 96)) []:=⟨hp,OwnR.nil,by simp[Value.ownBlock]⟩
 replace hq:=ah hq;go_wp2_with (refine T6 lL ?_);replace lL:=ah lL;refine bD (Ra hgh hq nm fo pa fe iv cr ho (v2.dt Io (tC N7)) (v3.dt Io (tC N7)) (v4.dt Io (tC N7)) (v5.dt Io (tC N7)) (v6.dt Io (tC N7)) (by have:=hwl.out;simp only[mc];omega)) fun w2 hW=>?_;obtain⟨v',asa,-⟩:=hW.q;have jy:=(hW.kp.block _ (aQ.1 lL).1 (fun e=>by have:=N7.out;rcases e with e|e;omega;simp[Value.ownBlock] at e)).trans lL;have gu:=Io.trans hW.kp fun i hi e=>by have:=N7.out;rcases e with e|e;omega;simp[Value.ownBlock] at e
 have d:=bc asa.hp 0;have hc:=asa.ow.aoX;rw[xR,<-hLt.out] at hc;revert jy gu hc;refine jk ?_;intro jy gu hc;go_wp2_with fail;refine(acu L hL hc ab).mono ?_;rintro e w3 ⟨tv,rows,rfl,hO,hF,K3⟩;obtain⟨gt,cap,rfl,ht,PE,Of⟩:=aaW hO hF cR.out;have gJ:=aJ jy K3;have xq:=gu.trans' K3;have arV:=ah Of;go_wp2_with (refine QW ?_);have lW:(w3.alloc (.cells #[.slice gt L.length cap,oZ,oZ,oZ,nS,false,oZ,oZ,oZ] 91)).heap[w3.heap.size]?=some (.cells #[.slice gt L.length cap,oZ,oZ,oZ,nS,false,oZ,oZ,oZ] 91):=ao;have P:=PS.make (fun _=>rfl) lW (fun t h=>⟨(hL t h).1,(hL t h).2.2⟩) h6 (ht.kept ((Kept.refl aK w3).alloc _) Of) aH ab;refine(LR dx I9 (most:=1) P rfl hx ai ab).mono ?_;rintro e w4 ⟨⟨a,c,rfl,Zr,-⟩,⟨fs,fv,Bd,P2⟩,K4⟩;have d5:w4.cell? ⟨w3,5,none⟩=some (.bool false):=P2.c5 _ rfl;have tP:=(aQ.1 gJ).1;have Cm:=(K4.block _ aH (fun e=>by have e':w.heap.size=w3.heap.size:=e;omega)).trans (aJ gJ ((Kept.refl aK w3).alloc (cO #[sV gt L.length cap,oZ,oZ,oZ,nS,false,oZ,oZ,oZ] 91)));have yu:=(xq.alloc (cO #[sV gt L.length cap,oZ,oZ,oZ,nS,false,oZ,oZ,oZ] 91)).trans K4 fun i hi e=>by have e':i=w3.heap.size:=e;have:=xq.size;omega
 obtain⟨gb,off,rfl,-,csb,nF,xE⟩:=Zr.elem (k:=0) (row:=[nm,false,fo,pa,(strs cr),fe,iv]) rfl;have hRw:=hR.kept yu fun _ _ _ e=>e;obtain⟨b2,e2,b3,e3,b4,e4,b5,e5,b6,e6,rfl,-⟩:=nF.nl;have hB7:Hid (∀V,Kept aK w4 V->rS V w.heap.size 0 0 #[.string (bs nm),.bool false,.slice a2 fo.length c2,.slice a3 pa.length c3,.slice a4 (strs cr).length c4,.slice a5 fe.length c5,.slice a6 iv.length c6].toList):=fun V s=>lO _ 0 fun i u hi=>by
  have:=aC (aJ Cm s) i;exact Ew
 have hq7:Hid (∀V,Kept aK w4 V->rS V gb off 0 [nm,false,sV b2 fo.length e2,sV b3 pa.length e3,.slice b4 (strs cr).length e4,sV b5 fe.length e5,sV b6 iv.length e6]):=fun V s=>lO _ 0 fun i u hi=>s.aq vZ fun e=>e;simp only[rS,fi,Nat.reduceAdd] at hB7 hq7;revert d5 yu hRw nF;refine jU ?_;intro d5 yu hRw nF;have hb:=ah Cm;go_wp2_with fail;refine jB 14 [(0,0),(1,0),(2,0),(3,0),(4,0),(5,0),(6,0),(7,0),(8,0),(9,0),(10,0),(11,0),(12,0),(13,0),(14,2),(15,2),(16,2)] (fun V=>Kept aK w4 V) af af (fun _ _ _ _ _ h=>h) (Kept.refl aK w4).drew ?_;iterate 14 ((first|refine Q8 ?_|(refine Q7 (v:=?_) ?_ (fun V s=>?_);rotate_right; · (have y5:=s.aq d5.out (fun e=>e);have q:=hq7.out V s;have B:=hB7.out V s;go_simp);with_reducible rfl));try simp only[Act.put,ma,mb,lj])
 refine qM (fun K hK=>?_);go_simp;refine bD (smK k _ _ _ _ _ _ hS (nF.kept (Kept.refl aK w4).drew fun _ _ _ e=>e) (hRw.kept (Kept.refl aK w4).drew fun _ _ _ e=>e)) fun w5 K5=>?_;have KZ:=(Kept.refl aK w4).drew.trans' K5;refine hK _ _ ?_;refine sp ?_;refine qM (fun K hK=>?_);go_simp;refine hK _ _ ?_;refine sp ?_;refine qM (fun K hK=>?_);go_simp;refine hK _ _ ?_;refine sp ?_;refine NT ?_;go_wp2_with fail;go_ret;exact⟨rfl,yu.trans' (KZ)⟩
def aaZ(row:Row):Prop:=∀(S:Nat->Prop) (w:World) (cs:List Value),aP S w row cs->Calls prog 73 #[.agg cs.toArray] w fun e w'=>e=.returned (iV 0)/\Kept aK w w'
def amp(row:Row)(l:List (List Nat)):Prop:=∀(p:Nat) (v:Value) (V:World) (cs:List Value),WQ p v V []->aP (Dt p v) V row cs->Calls prog 43 #[pW p,.agg cs.toArray] V (WP p v V l)
def aP.dt{w:World}{r:Row}{cs:List Value}(h:aP S w r cs)(hk:Kept aK w V)(hp:w.heap.size<=p):aP (Dt p (sV none 0 0)) V r cs:=
 ((h.mono (S':=fun b=>b < w.heap.size) fun _ _ hl=>hl).kept hk fun _ _ _ e=>e).mono fun b hb _=>⟨by omega,by simp[Value.ownBlock]⟩
def acz(hW:aaZ [nm,false,fo,pa,cr,fe,iv]){S:Nat->Prop}{w:World}{a:Option Addr}{c:Nat}(hx:an S w (.sl [[nm,false,fo,pa,cr,fe,iv]]) (sV a 1 c)):Calls prog 42 #[sV a 1 c] w fun e w'=>e=.returned (.tuple #[oZ,oZ])/\Kept aK w w':=by
 revert hW hx;refine ct ?_;intro hW hx;obtain⟨gb,off,rfl,-,csb,nF,xE⟩:=hx.out.elem (k:=0) (row:=[nm,false,fo,pa,cr,fe,iv]) rfl;obtain⟨b2,e2,b3,e3,b4,e4,b5,e5,b6,e6,rfl,-⟩:=nF.nl;go_enter func42,ntmps42;go_wp2_with fail;go_loopg [4] 1 (fun gg s4 wr=>∃k:Nat,s4=iV k/\k+gg=1/\Hid (Kept aK w wr))
 case atStart=>exact⟨0,rfl,rfl,Kept.refl _ _⟩
 case round=>
  obtain⟨k,rfl,hk,hK⟩:=hrel;by_cases h0:k=0
  ·have hq:=lO (V:=wr) (g:=gb) (o:=off) [nm,false,sV b2 fo.length e2,sV b3 pa.length e3,sV b4 cr.length e4,sV b5 fe.length e5,sV b6 iv.length e6] 0 fun i u hi=>hK.aq vZ fun e=>e;simp only[rS] at hq;have hR2:=ah (nF.kept hK.out fun _ _ _ e=>e);have U5:=ah hk;subst h0;go_wp2_with fail;refine bD (hW _ _ _ hR2) fun w2 K2=>?_;go_wp2_with fail;go_roundg (gk - 1)
   case measure=>have:=U5.out;omega
   case rel=>exact⟨1,rfl,by have:=U5.out;omega,hK.trans' K2⟩
  ·have h1:k=1:=by omega
   subst h1;exact DV
def acA(hW:aaZ [.str nm,.bool false,.sl fo,.sl pa,.sl cr,.sl fe,.sl iv]){l:List (List Nat)}(hT:amp [.str nm,.bool false,.sl fo,.sl pa,.sl cr,.sl fe,.sl iv] l)(bL:∀s∈l,bW s)(hl:l.length<=6000)(hj:(cf l).length < 20000){S:Nat->Prop}{w:World}{a:Option Addr}{c:Nat}(hx:an S w (.sl [[.str nm,.bool false,.sl fo,.sl pa,.sl cr,.sl fe,.sl iv]]) (sV a 1 c)):Calls prog 17 #[sV a 1 c] w fun e w'=>e=.returned (.tuple #[.string (bs (cf l++[10])),iV 0])/\Kept aK w w':=by
 have hw:=ah (acz hW hx);revert hT bL hx;refine jk ?_;intro hT bL hx;obtain⟨gb,off,rfl,-,csb,nF,xE⟩:=hx.out.elem (k:=0) (row:=[nm,false,fo,pa,cr,fe,iv]) rfl;obtain⟨b2,e2,b3,e3,b4,e4,b5,e5,b6,e6,rfl,-⟩:=nF.nl;go_enter func17,ntmps17;go_wp2_with fail;refine hw.mono ?_;rintro e w1 ⟨rfl,K1⟩;replace K1:=ah K1;go_wp2_with fail;go_loopg [6,7,8] 1 (fun gg s6 s7 s8 wr=>∃k:Nat,s8=iV k/\k+gg=1/\Hid ((k=0/\s6=.string ⟨#[]⟩/\s7=iV 0)∨(k=1/\s6=.string (bs (cf l++[10]))/\s7=iV l.length))/\Hid (Kept aK w wr))
 case atStart=>exact⟨0,rfl,rfl,.inl ⟨rfl,rfl,rfl⟩,K1⟩
 case round=>
  obtain⟨k,rfl,hk,hs,hK⟩:=hrel;rcases hs.out with⟨rfl,rfl,rfl⟩|⟨rfl,rfl,rfl⟩
  ·clear hs;have U5:=ah hk;have xq:=hK.alloc (cO #[nS] 96);have hq:=lO (V:=wr.alloc (cO #[nS] 96)) (g:=gb) (o:=off) [nm,false,sV b2 fo.length e2,sV b3 pa.length e3,sV b4 cr.length e4,sV b5 fe.length e5,sV b6 iv.length e6] 0 fun i u hi=>xq.aq vZ fun e=>e;simp only[rS] at hq;have hR2:=ah (nF.dt xq hK.out.size);have hp:(wr.alloc (.cells #[nS] 96)).heap[wr.heap.size]?=some (.cells #[nS] 96):=ao;have hqq:WQ wr.heap.size (sV none 0 0) (wr.alloc (cO #[nS] 96)) []:=⟨hp,OwnR.nil,by simp[Value.ownBlock]⟩
   replace hqq:=ah hqq;have dM:=ah hK.out.size;replace xq:=ah xq;go_wp2_with fail;refine bD (hT _ _ _ _ hqq hR2) fun w2 hWF=>?_;obtain⟨v',asa,-⟩:=hWF.q;have gu:=xq.trans hWF.kp fun i hi e=>by have:=dM.out;rcases e with e|e;omega;simp[Value.ownBlock] at e
   obtain⟨av,cv,rfl⟩:=asa.ow.form;have eG:(strs l).length=l.length:=bR;rw[eG] at asa;have d:=bc asa.hp 0;have hc:=asa.ow.aoX;revert gu hc;refine ct ?_;intro gu hc;have hjo:=ah (acf (w:=w2) l bL hc ab);have h63:(l.length:Int)<=6000:=ab;go_wp2_with fail;refine hjo.mono ?_;rintro e w4 ⟨rfl,K4⟩;have yu:=ah (gu.trans' K4);have e1:(⟨#[]⟩:ByteArray)++bs (cf l)++mz=bs (cf l++[10]):=by rw[<-aaK];congr 1
   have IQ:=tf (cf l);go_wp2_with fail;go_roundg (gk - 1)
   case measure=>have:=U5.out;omega
   case rel=>exact⟨1,rfl,by have:=U5.out;omega,.inr ⟨rfl,by first|rfl|rw[e1],by simp⟩,yu⟩
  ·have h1:¬(20000:Int) < ((cf l++[10]).length:Nat):=by simp;omega
   have h2:¬(6000:Int) < (l.length:Int):=ab;have h3:=tf (cf l++[10]);exact DV
open Go.RowKit
def bS(s:List Nat):Bool:=s.all fun c=>decide (c < 256)
def aj8(h:bS s=true):bW s:=fun c hc=>by have:=dV.1 h c hc;simpa using this
def bEx:Nat->Row->Bool
 |g+1,[.int k,.str nm,.int n,.sl kids]=>bS nm&&decide (1<=k/\k<=10)&&decide (k=1->0<=n/\n<=9223372036854775807)&&kids.all (bEx g)
 |_,_=>false
def agv:∀(g:Nat) (r:Row),bEx g r=true->lZ g r:=by
 intro g;induction g with
 |zero=>intro r h;simp[bEx] at h
 |succ g ih=>
  intro r h;unfold bEx at h;split at h
  ·rename_i k nm n kids e;cases e;simp only[dD,oM,dV] at h;exact⟨k,nm,n,kids,rfl,aj8 h.1.1.1,h.1.1.2,h.1.2,fun x hx=>ih x (h.2 x hx)⟩
  ·cases h
def bCl(g:Nat):Row->Bool
 |[.str _,.int k,.str nm,.int n,.sl kids]=>bEx g [.int k,.str nm,.int n,.sl kids]
 |_=>false
def TC{r:Row}(h:bCl g r=true):zg g r:=by
 unfold bCl at h;split at h
 ·exact⟨_,_,_,_,_,rfl,agv _ _ h⟩
 ·cases h
def bSt:Nat->Row->Bool
 |g+1,[.int k,.str _,.int n,.sl es,.sl tags,.sl li,.sl lb,.sl le]=>decide (k=1∨k=2∨k=3∨k=4∨k=5∨k=8∨k=9∨k=10)&&(k==8||k==9||!es.isEmpty)&&decide (k=9->0<=n/\n<=9223372036854775807)&&es.all (bEx g)&&tags.all (bCl g)&&li.all (bSt g)&&lb.all (bSt g)&&le.all (bSt g)
 |_,_=>false
def agw:∀(g:Nat) (r:Row),bSt g r=true->jf g r:=by
 intro g;induction g with
 |zero=>intro r h;simp[bSt] at h
 |succ g ih=>
  intro r h;unfold bSt at h;split at h
  ·rename_i e;cases e;simp only[dD,oM,dV] at h;obtain⟨⟨⟨⟨⟨⟨⟨h1,h2⟩,h3⟩,h4⟩,h5⟩,h6⟩,h7⟩,h8⟩:=h;refine⟨_,_,_,_,_,_,_,_,rfl,h1,fun a b e=>?_,h3,fun x hx=>agv _ _ (h4 x hx),fun x hx=>TC (h5 x hx),fun x hx=>ih x (h6 x hx),fun x hx=>ih x (h7 x hx),fun x hx=>ih x (h8 x hx)⟩;rw[e] at h2;simp[a,b] at h2
  ·cases h
def bVa(f:Nat):Row->Bool
 |[.str _,.int k,.str nm,.sl args,.bool vd,.bool sp]=>Iw f [.int k,.str nm,.sl args,.bool vd,.bool sp]
 |_=>false
def agx{f:Nat}{r:Row}(h:bVa f r=true):VR f r:=by
 unfold bVa at h;split at h
 ·exact⟨_,_,_,_,_,_,rfl,h⟩
 ·cases h
def bN:Row->Bool
 |[.str s]=>bS s
 |_=>false
def aa0:∀{l:List Row},l.all bN=true->∃ss,l=strs ss/\∀s∈ss,bW s
 |[],_=>⟨[],rfl,by simp⟩
 |x::l,h=>by
  simp only[tD,dD] at h;obtain⟨ss,rfl,hs⟩:=aa0 h.2;have h1:=h.1;unfold bN at h1;split at h1
  ·exact⟨_::ss,rfl,fun s hs'=>(cZ.1 hs').elim (fun e=>e▸aj8 h1) (hs s)⟩
  ·cases h1
def bFe(g f:Nat):Row->Bool
 |[.int k,.str _,.sl cl,.sl ag,.int tk,.str tn,.sl ta,.bool tv,.bool ts,.sl lo,.sl rq,.sl en,.sl b,.sl rb,.bool _]=>decide (k=1∨k=2)&&cl.all bN&&ag.all (bVa f)&&(tk==0||Iw f [.int tk,.str tn,.sl ta,.bool tv,.bool ts])&&lo.all (bVa f)&&rq.all (bCl g)&&en.all (bCl g)&&b.all (bSt g)&&rb.all (bSt g)
 |_=>false
def ams{f:Nat}{r:Row}(h:bFe g f r=true):okF g f r:=by
 unfold bFe at h;split at h
 ·simp only[dD,oM,dV] at h;obtain⟨⟨⟨⟨⟨⟨⟨⟨h1,h2⟩,h3⟩,h4⟩,h5⟩,h6⟩,h7⟩,h8⟩,h9⟩:=h;obtain⟨ss,rfl,hs⟩:=aa0 (dV.2 h2);refine⟨_,_,ss,_,_,_,_,_,_,_,_,_,_,_,_,rfl,⟨h1,fun x hx=>agx (h3 x hx),fun e=>?_,fun x hx=>agx (h5 x hx),fun x hx=>TC (h6 x hx),fun x hx=>TC (h7 x hx),fun x hx=>agw _ _ (h8 x hx),fun x hx=>agw _ _ (h9 x hx)⟩,hs⟩;simpa[e] using h4
 ·cases h
def agy(g f:Nat):Row->Bool
 |[.str nm,.bool d,.sl fo,.sl pa,.sl cr,.sl fe,.sl iv]=>!d&&bS nm&&fo.all (fun r=>match r with|[.str _,.str _]=>true|_=>false)&&pa.all (fun r=>match r with|[.str _,.sl [],.sl [],.sl [],.sl re,.sl []]=>re.all bN|_=>false)&&cr.all bN&&fe.all (bFe g f)&&iv.all (bCl g)
 |_=>false
def ai6{f:Nat}{r:Row}(h:agy g f r=true):∃(nm:List Nat) (fo pa fe iv:List Row) (cr:List (List Nat)),r=[.str nm,.bool false,.sl fo,.sl pa,.sl (strs cr),.sl fe,.sl iv]/\afJ g f fo pa fe iv:=by
 unfold agy at h;split at h
 ·simp only[dD,xQ,dV] at h;obtain⟨⟨⟨⟨⟨⟨rfl,h1⟩,h2⟩,h3⟩,h4⟩,h5⟩,h6⟩:=h;obtain⟨ss,rfl,hs⟩:=aa0 (dV.2 h4);refine⟨_,_,_,_,_,ss,rfl,fun r hr=>?_,fun r hr=>?_,fun r hr=>ams (h5 r hr),fun r hr=>TC (h6 r hr)⟩
  ·have:=h2 r hr;split at this
   ·exact⟨_,_,rfl⟩
   ·cases this
  ·have:=h3 r hr;split at this
   ·obtain⟨re,rfl,-⟩:=aa0 this;exact⟨_,re,rfl⟩
   ·cases this
 ·cases h
def ai7:((List.range 12).all fun k=>T0 60 (nC prog k)&&agy 30 60 (nC prog k)&&shK 60 (nC prog k)&&(yP 60 (nC prog k)==Qf prog k)&&(Qf prog k).all (fun w=>w.all fun c=>decide (c < 256))&&!(tL prog k).contains 10&&!(Qf prog k).isEmpty)=true:=by decide+kernel
def We:((List.range 12).flatMap (LN prog)).length<=6000/\(mF prog (List.range 12)).length<=20000:=by decide+kernel
structure aq0 (k:Nat):Prop where
 jn:cf (Qf prog k)=tL prog k
 ok:∀w∈Qf prog k,okW w=true
 b:bW (tL prog k)
 n:(Qf prog k).length < 1000
 c:T0 60 (nC prog k)=true
 cls:agy 30 60 (nC prog k)=true
 sh:shK 60 (nC prog k)=true
 w:yP 60 (nC prog k)=Qf prog k
 wb:∀w∈Qf prog k,bW w
 t10:10∉tL prog k
 ne:Qf prog k≠[]
def IG(hk:k < 12):aq0 k:=by have h1:=dV.1 YD k (BZ.2 hk);have h2:=dV.1 ai7 k (BZ.2 hk);simp only[dD,dU,oM,dV,xQ] at h1 h2;obtain⟨⟨⟨a1,a2⟩,a3⟩,a4⟩:=h1;obtain⟨⟨⟨⟨⟨⟨b1,b2⟩,b3⟩,b4⟩,b5⟩,b6⟩,b7⟩:=h2;exact⟨a1,a2,a3,a4,b1,b2,b3,b4,b5,fun h=>(by rw[MK.2 h] at b6;cases b6),fun h=>(by rw[h] at b7;cases b7)⟩
def Sel(ks:List Nat):Prop:=∃p:Nat->Bool,ks=(List.range 12).filter p
def Sel.lt(h:Sel ks):∀k∈ks,k < 12:=by obtain⟨p,rfl⟩:=h;exact fun k hk=>BZ.1 (Uc.1 hk).1
def zi{α:Type}(g:Nat->List α)(p:Nat->Bool):∀l:List Nat,((l.filter p).flatMap g).length<=(l.flatMap g).length
 |[]=>by simp
 |x::l=>by
  have ih:=zi g p l;by_cases h:p x=true
  ·rw[List.filter_cons_of_pos h,rz,rz,j0,j0];omega
  ·rw[List.filter_cons_of_neg h,rz,j0];omega
def zj(ks:List Nat):mF prog ks=ks.flatMap fun k=>tL prog k++[10]:=by unfold mF QC;rw[List.flatMap_map]
def Sel.len(h:Sel ks):(ks.flatMap (LN prog)).length<=6000/\(mF prog ks).length<=20000/\ks.length<=12:=by obtain⟨p,rfl⟩:=h;refine⟨cn (zi _ p _) We.1,?_,by have:=Qs p (List.range 12);simpa using this⟩;have:=We.2;rw[zj] at this ⊢;exact cn (zi _ p _) this
def MG:∀{ks:List Nat},(∀k∈ks,k < 12)->∀N,ks.length < N->Aa 60 60 N (ks.flatMap (LN prog))=some (ks.map (nC prog))
 |[],_,N+1,_=>rfl
 |k::ks,h,N+1,hN=>by
  have hk:=h k ai;have ih:=MG (ks:=ks) (fun x hx=>h x (eC _ hx)) N (by simpa using hN);have ho:=IG hk;have hr:=acg k hk (ks.flatMap (LN prog));rw[rz];unfold Aa;have cR:(LN prog k++ks.flatMap (LN prog)).isEmpty=false:=by
   unfold LN
   cases e:Qf prog k with
   |nil=>exact absurd e ho.ne
   |cons=>rfl
  rw[cR,aE ai,hr];simp only[Ae];rw[aI ho.c,ih];rfl
def Wf(h:∀k∈ks,k < 12):∀t∈ks.flatMap (LN prog),bW t.t/\shape t.t=some t.k:=by intro t ht;obtain⟨k,hk,ht⟩:=List.mem_flatMap.1 ht;obtain⟨w,hw,rfl⟩:=dO.1 ht;have ho:=IG (h k hk);obtain⟨c,r,-,-,-,hs,-⟩:=IB (t:=[]) (.inl rfl) (ho.ok w hw);exact⟨ho.wb w hw,hs⟩
def aa1:∀{ks:List Nat},(∀k∈ks,k < 12)->∃F,qQ F (mF prog ks)=some (ks.flatMap (LN prog))
 |[],_=>⟨0,rfl⟩
 |k::ks,h=>by
  obtain⟨F,hF⟩:=aa1 (ks:=ks) fun x hx=>h x (eC _ hx);have ho:=IG (h k ai);refine⟨F+2*(Qf prog k).length,?_⟩;have e:mF prog (k::ks)=cf (Qf prog k)++10::mF prog ks:=by rw[zj,zj,rz,ho.jn];simp
  rw[e,VZ _ ho.ok ho.ne,hF];rfl
def ai8(h:∀k∈ks,k < 12):bW (mF prog ks):=by
 rw[zj];intro c hc;obtain⟨k,hk,hc⟩:=List.mem_flatMap.1 hc;rcases oU.1 hc with hc|hc
 ·exact(IG (h k hk)).b c hc
 ·rw[JH.1 hc];omega
def amt(hs:Sel ks)(w:World)(hE:Env w):Calls prog 34 #[(mF prog ks)] w fun e w'=>∃a c,e=.returned (.tuple #[sV a ks.length c,.agg #[iV 0,iV 0],oZ])/\an w w' (.sl (ks.map (nC prog))) (sV a ks.length c)/\Kept aK w w':=by
 obtain⟨xY,oL,ij⟩:=hs.len;have e1:(ks.map (Qf prog)).map cf=ks.map (tL prog):=by rw[AY];exact Rl fun k hk=>(IG (hs.lt k hk)).jn
 have e2:((ks.map (Qf prog)).flatMap fun ws=>ws.map tk)=ks.flatMap (LN prog):=by rw[List.flatMap_map];rfl
 have aoY:QC ((ks.map (Qf prog)).map cf)=mF prog ks:=by rw[e1];rfl
 have hT:∀w,Env w->Calls prog 164 #[(mF prog ks)] w (Ir (ks.flatMap (LN prog)) w):=fun w hE=>by
  have:=afT (ks.map (Qf prog)) (fun ws xD x hx=>by obtain⟨k,hk,rfl⟩:=dO.1 xD;exact(IG (hs.lt k hk)).ok x hx) (fun ws xD=>by
   obtain⟨k,hk,rfl⟩:=dO.1 xD;have ho:=IG (hs.lt k hk);rw[ho.jn];exact⟨ho.b,ho.t10,by have:=Nc (hs.lt k hk);omega,by have:=ho.n;omega⟩) (by rw[e2];exact xY) aH (by rw[aoY];exact oL) w hE
  rw[aoY,e2] at this;exact this.mono fun e w' h=>h.lex
 have h:=afV ae2 (F:=60) (f:=60) (N:=13) ab ab (s:=bs (mF prog ks)) hT (fun w=>Ye _ (by rw[dp];omega) w) (Wf hs.lt) xY (MG hs.lt 13 ab) aH w hE;exact Kg
def aa2(hs:Sel ks)(w:World):Calls prog 16 #[(mF prog ks)] w fun e w'=>∃a c,e=.returned (.agg #[sV a ks.length c,oZ,oZ,oZ])/\an w w' (.sl (ks.map (nC prog))) (sV a ks.length c)/\Kept aK w w':=by obtain⟨xY,oL,ij⟩:=hs.len;obtain⟨F,hF⟩:=aa1 hs.lt;have h:=acs (F:=60) (f:=60) (N:=13) ab ab (mF prog ks) (ai8 hs.lt) oL hF xY (Wf hs.lt) (MG hs.lt 13 ab) aH w;exact Kg
def acB{row:Row}{ws:List (List Nat)}(hc:T0 60 row=true)(hb:agy 30 60 row=true)(hs:shK 60 row=true)(hw:yP 60 row=ws)(bL:∀w∈ws,okW w=true/\bW w/\w.length<=1000000)(cR:ws≠[])(h6:ws.length<=6000)(hj:(cf ws).length < 20000){F:Nat}(hF:F<=6000)(hx:Aa F 60 2 (ws.map tk)=some [row]){S:Nat->Prop}{w:World}{a:Option Addr}{c:Nat}(hv:an S w (.sl [row]) (sV a 1 c)):Calls prog 17 #[sV a 1 c] w fun e w'=>e=.returned (.tuple #[.string (bs (cf ws++[10])),iV 0])/\Kept aK w w':=by
 obtain⟨nm,fo,pa,fe,iv,cr,rfl,ho⟩:=ai6 hb;have hD:=O3 (f:=60) ab hc;refine acA (cr:=strs cr) (l:=ws) ?_ ?_ (fun s h=>(bL s h).2.1) h6 hj hv
 ·intro S w cs hR;exact Qi (F:=F) (f:=60) (g:=30) (h:=60) (k:=60) hF ab ab hR ho hs hD (ws.map tk) (by rw[hw,AY];exact(Rl (g:=id) fun x _=>rfl).trans (AZ ws)) (fun t ht=>by
   obtain⟨x,hx,rfl⟩:=dO.1 ht;obtain⟨h1,h2,h3⟩:=bL x hx;obtain⟨_,_,-,-,-,h4,-⟩:=IB (t:=[]) (.inl rfl) h1;exact⟨h2,h3,h4⟩) (by simpa using h6) (fun e=>cR (List.map_eq_nil_iff.1 e)) hx
 ·intro p v V cs hq hR;obtain⟨a2,c2,a3,c3,a4,c4,a5,c5,a6,c6,rfl,v2,v3,v4,v5,v6,-⟩:=hR.nl;have:=Ra (g:=30) (f:=60) ab hq nm fo pa fe iv cr ho v2 v3 v4 v5 v6 (by rw[hw];simp;omega);rw[hw] at this;simpa using this
def amu(hk:k < 12){S:Nat->Prop}{w:World}{a:Option Addr}{c:Nat}(hv:an S w (.sl [nC prog k]) (sV a 1 c)):Calls prog 17 #[sV a 1 c] w fun e w'=>e=.returned (.tuple #[.string (bs (tL prog k++[10])),iV 0])/\Kept aK w w':=by
 have ho:=IG hk;have hl:=Nc hk;have hwl:∀w∈Qf prog k,w.length<=1000000:=fun w hw=>by
  have:∀(ws:List (List Nat)),w∈ws->w.length<=(cf ws).length:=by
   intro ws;induction ws with
   |nil=>intro h;cases h
   |cons x ws ih=>
    intro h
    cases ws with
    |nil=>rw[JH.1 h];exact aM _
    |cons y ws=>
     show _<=(x++32::cf (y::ws)).length;rw[j0,dC];rcases cZ.1 h with rfl|h
     ·omega
     ·have:=ih h;omega
  have:=this _ hw;rw[ho.jn] at this;omega
 have hn:=ho.n;have:=acB ho.c ho.cls ho.sh ho.w (fun w hw=>⟨ho.ok w hw,ho.wb w hw,hwl w hw⟩) ho.ne ab (by rw[ho.jn];omega) (F:=60) ab (by have:=MG (ks:=[k]) (fun x hx=>by rw[JH.1 hx];exact hk) 2 ai;simpa[LN] using this) hv;rwa[ho.jn] at this
def txV(P:Program)(nm:List Nat):List Nat:=if nm∈eN then tL P (eN.idxOf nm)++[10] else[]
def ixE(nm:List Nat):Int:=if nm∈eN then 0 else 4
def ndV(nm:List Nat):List (List Nat):=if nm∈eN then lh (eN.idxOf nm) else[]
def aa3{w:World}(h:YE nm w e w'):e=.returned (.tuple #[(txV prog nm),(ixE nm)])/\Kept aK w w':=by
 rcases h with⟨k,hk,hn,rfl,K⟩|⟨eK,rfl,K⟩
 ·obtain⟨h1,h2⟩:=Ni hk hn;unfold txV ixE;rw[aI h2,aI h2,h1,<-O0];exact⟨rfl,K⟩
 ·unfold txV ixE;rw[aE eK,aE eK];exact⟨rfl,K⟩
def aa4{w:World}(h:afR nm w e w'):∃a c,e=.returned (.tuple #[.slice a (ndV nm).length c,(ixE nm)])/\an w w' (.sl (strs (ndV nm))) (.slice a (ndV nm).length c)/\Kept aK w w':=by exact Dr
def ai9{w:World}(h:af2 nm w e w'):∃a c,e=.returned (.agg #[.slice a (ndV nm).length c,(ixE nm)])/\an w w' (.sl (strs (ndV nm))) (.slice a (ndV nm).length c)/\Kept aK w w':=by exact Dr
def amv(nm:List Nat):∀s∈ndV nm,bW s:=fun s hs=>by
 unfold ndV at hs;split at hs
 ·exact BG s (Uc.1 hs).1
 ·cases hs
def clR(P:Program)(ns:List (List Nat)):List Row:=if ns.length<=40/\∀s∈ns,s∈eN then(PK (mS ns)).map (nC P) else[]
def clE(ns:List (List Nat)):Int:=if 40 < ns.length then 3 else if ∀s∈ns,s∈eN then 0 else 4
def O5(A:List (List Nat)):Sel (PK A):=⟨_,rfl⟩
def amw(ns:List (List Nat)):∀r∈clR prog ns,shK 60 r=true:=fun r hr=>by
 unfold clR at hr;split at hr
 ·obtain⟨k,hk,rfl⟩:=dO.1 hr;exact(IG ((O5 _).lt k hk)).sh
 ·cases hr
def aja{c:Nat}{w:World}(hE:Env w)(hx:an S w (.sl (strs ns)) (sV a ns.length c))(bL:∀s∈ns,bW s)(hn:ns.length<=60):Calls prog 10 #[sV a ns.length c] w fun e w'=>∃a c,e=.returned (.tuple #[.slice a (clR prog ns).length c,(clE ns)])/\an w w' (.sl (clR prog ns)) (.slice a (clR prog ns).length c)/\Kept aK w w':=by
 refine acn hx bL hn _ (fun h w' hk=>?_) (fun h h2 w' hk=>?_) (fun h h2 w1 hk=>?_)
 ·exact DX
 ·exact DF
 ·refine Gy ?_;intro e1 e2;refine(amt (O5 _) w1 (hE.no hk)).mono ?_;rintro e w' ⟨a2,c2,rfl,hv,K⟩;refine⟨a2,_,c2,rfl,K,fun w2 jF=>⟨a2,c2,by rw[Af],?_,(hk.trans' K).trans' jF⟩⟩;rw[Af];exact(hv.kept jF (fun _ _ _ e=>e)).mono fun b hb _=>cn hk.size hb
def agA{c:Nat}{w:World}(hx:an S w (.sl (strs ns)) (sV a ns.length c))(bL:∀s∈ns,bW s)(hn:ns.length<=60):Calls prog 11 #[sV a ns.length c] w fun e w'=>∃a c,e=.returned (.agg #[.slice a (clR prog ns).length c,(clE ns)])/\an w w' (.sl (clR prog ns)) (.slice a (clR prog ns).length c)/\Kept aK w w':=by
 refine YI hx bL hn _ (fun h w' hk=>?_) (fun h h2 w' hk=>?_) (fun h h2 w1 hk bQ=>?_)
 ·exact DX
 ·exact DF
 ·refine Gy ?_;intro e1 e2;refine(aa2 (O5 _) w1).mono ?_;rintro e w' ⟨a2,c2,rfl,hv,K⟩;refine⟨a2,_,c2,rfl,K,fun w2 jF=>⟨a2,c2,by rw[Af],?_,(hk.trans' K).trans jF fun b hb e=>by omega⟩⟩;rw[Af];exact(hv.kept jF dH).mono fun b hb _=>cn hk.size hb
def agB:Prop:=∀w,Env w->Calls prog 5 #[] w fun e w'=>e=.returned (.bool true)/\Kept aK w w'
def ajb(hk:k < 12):Sel [k]:=⟨fun j=>j==k,by
 match k,hk with
 |0,_=>rfl
 |1,_=>rfl
 |2,_=>rfl
 |3,_=>rfl
 |4,_=>rfl
 |5,_=>rfl
 |6,_=>rfl
 |7,_=>rfl
 |8,_=>rfl
 |9,_=>rfl
 |10,_=>rfl
 |11,_=>rfl⟩
def Jz{S':Nat->Prop}{w:World}(a:List (List Nat))(ha:∀s∈a,bW s){x y:Value}(hx:an S w (.sl (strs a)) x)(hy:an S' w (.sl (strs a)) y):Calls prog 12 #[x,y] w fun e w'=>e=.returned (.bool true)/\Kept aK w w':=by have h:=Q9 a a ha ha hx hy;rwa[B4 rfl] at h
def aq1(hH:agB){S:Nat->Prop}{nm:List Nat}(hm:bW nm){ns:List (List Nat)}{a:Option Addr}{c:Nat}{w:World}(hx:an S w (.sl (strs ns)) (sV a ns.length c))(bL:∀s∈ns,bW s)(hE:Env w):Calls prog 3 #[nm,sV a ns.length c] w fun e w'=>e=.returned (.bool true)/\Kept aK w w':=by
 have hh:=ah (hH w hE);obtain⟨KN,hKN⟩:∃m,ns.length=m:=⟨_,rfl⟩
 have kc:=ah (fun(V:World) (hk:Kept aK w V) (hn:ns.length<=60)=>aja (hE.no hk) (hx.mono (S':=fun _=>True) (fun _ _ _=>bw) |>.kept hk (fun _ _ _ e=>e)) bL hn);have Po:=ah (fun(V:World) (hk:Kept aK w V) (hn:ns.length<=60)=>agA (hx.mono (S':=fun _=>True) (fun _ _ _=>bw) |>.kept hk (fun _ _ _ e=>e)) bL hn);rw[hKN] at kc Po ⊢;obtain⟨NL,hNL⟩:∃l,ndV nm=l:=⟨_,rfl⟩
 have agC:∀s∈NL,bW s:=hNL▸amv nm;obtain⟨CR,hCR⟩:∃l,clR prog ns=l:=⟨_,rfl⟩
 have agD:∀r∈CR,shK 60 r=true:=hCR▸amw ns;obtain⟨TV,hTV⟩:∃l,txV prog nm=l:=⟨_,rfl⟩
 obtain⟨IE,hIE⟩:∃n,ixE nm=n:=⟨_,rfl⟩
 obtain⟨CE,hCE⟩:∃n,clE ns=n:=⟨_,rfl⟩
 rw[hCR,hCE] at kc Po;have htx:=ah (fun w=>(aoC hm w).mono fun e w' h=>aa3 h);have hrt:=ah (fun w=>(al7 hm w).mono fun e w' h=>aa3 h);have Ij:=ah (fun w=>(afS hm w).mono fun e w' h=>aa4 h);have hrn:=ah (fun w=>(aaV hm w).mono fun e w' h=>ai9 h);rw[hTV,hIE] at htx hrt;rw[hNL,hIE] at Ij hrn;revert hE hKN hNL agC hCR agD hTV hIE hCE;refine hd9 ?_;intro hE hKN hNL agC hCR agD hTV hIE hCE;go_enter func3,ntmps3;go_wp2_with fail;refine hh.mono ?_;rintro e w1 ⟨rfl,K1⟩;replace K1:=ah K1;by_cases h60:60 < KN
 ·have h6:(60:Int) < (KN:Int):=by omega
  go_wp2_with fail;go_ret;exact⟨rfl,K1⟩
 have h6:¬(60:Int) < (KN:Int):=ab;go_wp2_with fail;refine bD (htx _) fun w2 K2=>?_;replace K2:=ah (K1.trans' K2);go_wp2_with fail;refine bD (hrt _) fun w3 K3=>?_;replace K3:=ah (K2.trans' K3);go_wp2_with fail;refine(Ij _).mono ?_;rintro e w4 ⟨a4,c4,rfl,v4,K4⟩;obtain⟨ML,Ab⟩:∃m,NL.length=m:=⟨_,rfl⟩
 rw[Ab] at v4 ⊢;replace v4:=ah v4;replace K4:=ah (K3.trans' K4);go_wp2_with fail;refine(hrn _).mono ?_;rintro e w5 ⟨a5,c5,rfl,v5,K5⟩;rw[Ab] at v5 ⊢;replace Ab:=ah Ab;have b5:Hid ((w5.alloc (cO #[sV a5 ML c5,IE] 30)).heap[w5.heap.size]?=some (.cells #[sV a5 ML c5,IE] 30 (0,0))):=ah ao;have k5:=(Kept.refl aK w5).alloc (cO #[sV a5 ML c5,IE] 30);replace v4:=ah ((v4.kept K5 (fun _ _ _ e=>e)).kept k5 (fun _ _ _ e=>e));replace v5:=ah (v5.kept k5 (fun _ _ _ e=>e));replace K5:=ah ((K4.trans' K5).trans' k5);go_wp2_with fail;refine(kc _ K5 kQ).mono ?_;rintro e w6 ⟨a6,c6,rfl,v6,K6⟩;obtain⟨RL,hRL⟩:∃m,CR.length=m:=⟨_,rfl⟩
 rw[hRL] at v6 ⊢;replace b5:=ah (aJ b5.out K6);replace v4:=ah (v4.kept K6 (fun _ _ _ e=>e));replace v5:=ah (v5.kept K6 (fun _ _ _ e=>e));replace v6:=ah v6;replace K6:=ah (K5.trans' K6);go_wp2_with fail;refine(Po _ K6 kQ).mono ?_;rintro e w7 ⟨a7,c7,rfl,v7,K7⟩;rw[hRL] at v7 ⊢;replace hRL:=ah hRL;have k7:=(Kept.refl aK w7).alloc (cO #[sV a7 RL c7,CE] 36);have b7:Hid ((w7.alloc (cO #[sV a7 RL c7,CE] 36)).heap[w7.heap.size]?=some (.cells #[sV a7 RL c7,CE] 36 (0,0))):=ah ao;replace b5:=ah (aJ (aJ b5 K7) k7);replace v4:=ah ((v4.kept K7 (fun _ _ _ e=>e)).kept k7 (fun _ _ _ e=>e));replace v5:=ah ((v5.kept K7 (fun _ _ _ e=>e)).kept k7 (fun _ _ _ e=>e));replace v6:=ah ((v6.kept K7 (fun _ _ _ e=>e)).kept k7 (fun _ _ _ e=>e));replace v7:=ah (v7.kept k7 (fun _ _ _ e=>e));replace K7:=ah ((K6.trans' K7).trans' k7);go_wp2_with fail;refine(aaS _).mono ?_;rintro e w8 ⟨a8,c8,rfl,v8,K8⟩;replace b5:=ah (aJ b5.out K8);replace b7:=ah (aJ b7.out K8);replace v4:=ah (v4.kept K8 (fun _ _ _ e=>e));replace v5:=ah (v5.kept K8 (fun _ _ _ e=>e));replace v6:=ah (v6.kept K8 (fun _ _ _ e=>e));replace v7:=ah (v7.kept K8 (fun _ _ _ e=>e));replace v8:=ah v8;replace K8:=ah (K7.trans' K8);go_wp2_with fail;refine(V5 _).mono ?_;rintro e w9 ⟨a9,c9,rfl,v9,K9⟩;replace b5:=ah (aJ b5.out K9);replace b7:=ah (aJ b7.out K9);replace v4:=ah (v4.kept K9 (fun _ _ _ e=>e));replace v5:=ah (v5.kept K9 (fun _ _ _ e=>e));replace v6:=ah (v6.kept K9 (fun _ _ _ e=>e));replace v7:=ah (v7.kept K9 (fun _ _ _ e=>e));have h89:=ah (Jz eN BG (v8.kept K9 (fun _ _ _ e=>e)) v9);replace K9:=ah (K8.trans' K9);go_wp2_with fail;refine h89.mono ?_;rintro e AT ⟨rfl,K10⟩;replace b5:=aJ b5 K10;replace b7:=aJ b7 K10;have d50:=aC b5 0;have d51:=aC b5 1;have h45:=ah (Jz NL agC.out (v4.kept K10 (fun _ _ _ e=>e)) (v5.kept K10 (fun _ _ _ e=>e)));replace v6:=ah (v6.kept K10 (fun _ _ _ e=>e));replace v7:=ah (v7.kept K10 (fun _ _ _ e=>e));revert b5 b7;refine ct ?_;intro b5 b7;replace K10:=ah (K9.trans' K10);have h67:=ah (fun(V:World) (hk:Kept aK AT V)=>aoW 60 _ _ _ CR _ _ agD (v6.kept hk (fun _ _ _ e=>e)) (v7.kept hk (fun _ _ _ e=>e)));have aoZ:(nm∈eN/\IE=0)∨(nm∉eN/\IE=4):=by
  have h:=hIE.out;unfold ixE at h;split at h
  ·rename_i h1;exact .inl ⟨h1,h.symm⟩
  ·rename_i h1;exact .inr ⟨h1,h.symm⟩
 rcases aoZ with⟨lQ,rfl⟩|⟨-,rfl⟩
 ·refine pQ ?_;intro k hk Xv;have ajc:TV=tL prog k++[10]:=by have h:=hTV.out;unfold txV at h;rw[aI lQ,(Ni hk Xv.symm).1] at h;exact h.symm
  have ao0:=ah (fun w=>aa2 (ajb hk) w);have ao1:=ah (fun(S:Nat->Prop) (w:World) (a:Option Addr) (c:Nat) (hv:an S w (.sl [nC prog k]) (sV a 1 c))=>amu hk hv);have aq2:mF prog [k]=TV:=by rw[zj,ajc];simp
  rw[aq2] at ao0;rw[<-ajc] at ao1;replace ajc:=ah ajc;go_wp2_with (first
   |(go_at_call 12;refine h45.mono ?_;rintro e xS ⟨rfl,WN⟩;have c70:=aJ b7 WN;have d70:=aC c70 0;replace c70:=ah c70;replace WN:=ah WN)
   |(go_at_call 15;refine(h67 _ WN).mono ?_;rintro e vl ⟨rfl,SQ⟩;have b50:=aJ (aJ b5 WN) SQ;have b70:=aJ c70 SQ;have e51:=aC b50 1;have e71:=aC b70 1;replace b50:=ah b50;replace b70:=ah b70;replace SQ:=ah ((K10.trans' WN).trans' SQ)))
  refine(ao0 _).mono ?_;rintro e ND ⟨j7,ft,rfl,v13,K13⟩;have k13:=(Kept.refl aK ND).alloc (cO #[sV j7 1 ft,oZ,oZ,oZ] 44);have v14:=v13.kept k13 (fun _ _ _ e=>e);have L8:Hid ((ND.alloc (cO #[sV j7 1 ft,oZ,oZ,oZ] 44)).heap[ND.heap.size]?=some (.cells #[sV j7 1 ft,oZ,oZ,oZ] 44 (0,0))):=ah ao;have h17:=ah (ao1 _ _ _ _ v14);replace K13:=ah ((SQ.trans' K13).trans' k13);go_wp2_with fail;refine h17.mono ?_;rintro e ZY ⟨rfl,K14⟩;have b14:=aJ L8 K14;have d2:=aC b14 3;replace b14:=ah b14;replace K14:=ah (K13.trans' K14);go_wp2_with fail;go_ret;exact⟨rfl,K14⟩
 ·go_wp2_with (first
   |(go_at_call 12;refine h45.mono ?_;rintro e xS ⟨rfl,WN⟩;have c70:=aJ b7 WN;have d70:=aC c70 0;replace c70:=ah c70;replace WN:=ah WN)
   |(go_at_call 15;refine(h67 _ WN).mono ?_;rintro e vl ⟨rfl,SQ⟩;have b50:=aJ (aJ b5 WN) SQ;have b70:=aJ c70 SQ;have e51:=aC b50 1;have e71:=aC b70 1;replace b50:=ah b50;replace b70:=ah b70;replace SQ:=ah ((K10.trans' WN).trans' SQ)))
  go_ret;exact⟨rfl,SQ⟩
def Zh(nm:ByteArray)(A B:Int)(w:World):Calls prog 27 #[.string nm,I A,I B] w fun e w'=>e=.returned (.agg #[.string nm,I A,I B])/\Kept aK w w':=by go_enter func27,ntmps27;go_wp2;refine bG (v:=.agg #[.string nm,I A,I B]) (by simp[results,results27,go_sem]) rfl ?_;exact pB
def Pg(c:JD)(hc:c≠ .counter)(l:List (ByteArray×Int×Int))(want:List Int)(f:Int){cs ds:Array Value}(fY:cs=(LW l).toArray)(hds:ds=(want.map (Value.int .i64)).toArray)(hl:l.length<=40)(hw:want.length<=40)(bL:l.all (okB c)=true)(hP:run c l ⟨[],.map [],0,-1⟩ []=some (want,f))(w:World):Calls prog 28 #[.string (clsName c),sV (some ⟨w,0,none⟩) l.length l.length,sV (some ⟨w.heap.size+1,0,none⟩) want.length want.length,I f] ((w.alloc (cO cs 59)).alloc (cO ds 3)) fun e w'=>e=.returned (.bool true)/\Kept aK w w':=by have hL:LC (w.alloc (cO cs 59)) (some ⟨w,0,none⟩) l:=ag7 w l 59 cs fY hl bL;have hO:=ag8 (w.alloc (cO cs 59)) want ds hds hw;rw[dB] at hO;have hs:=ag6 c hc _ l.length l want f _ _ _ (hL.below ((iG _ _).alloc (aM _) (cO ds 3))) hl (Za bL) hP hO;exact hs.mono fun e w' ⟨h,g⟩=>⟨h,(((Kept.refl aK w).alloc _).alloc _).trans' (wU g)⟩
def NS:List (List Nat):=[[76,73,78,75],[73,78,84,83],[83,69,84]]
def api:∀s∈NS,bW s:=by unfold NS bW;decide
def amK(V:World):Calls prog 8 #[.string IV] V fun e w'=>∃a c,e=.returned (.tuple #[sV a 3 c,oZ])/\an V w' (.sl (strs NS)) (sV a 3 c)/\Kept aK V w':=by have Ij:ndV [83,69,84]=NS:=bh;have hix:ixE [83,69,84]=0:=bh;refine(afS (nm:=[83,69,84]) (by unfold bW;decide) V).mono fun e w' h=>?_;have:=aa4 h;rw[Ij,hix] at this;exact this
def ajs:agB:=by intro w hE;go_enter func5,ntmps5;go_wp2_with fail;refine(amK _).mono ?_;rintro e w1 ⟨a,c,rfl,hv,hb⟩;replace hb:=ah hb;go_wp2_with fail;refine bD (Zh _ _ _ _) fun w2 h2=>?_;go_wp2_with fail;refine bD (Zh _ _ _ _) fun w3 h3=>?_;replace hv:=hv.kept (h2.trans' h3) (fun _ _ _ e=>e);replace hb:=ah (hb.trans' (h2.trans' h3));have hL:LC (w3.alloc (cO #[.string lV,I 2,I 0,.string cM,I 0,I 0] 59)) (some ⟨w3,0,none⟩) SCR:=ag7 w3 SCR 59 _ rfl aj (c:=.counter) bh;have hd:=ah (TP _ _ 2 _ hL);go_wp2_with fail;refine hd.mono ?_;rintro e w4 ⟨rfl,h4⟩;have h4':=((Kept.refl aK w3).alloc (cO #[.string lV,I 2,I 0,.string cM,I 0,I 0] 59)).trans' (wU h4);replace hv:=hv.kept (h4'.alloc (cO #[.string fI,.string gG,.string IV] 9)) (fun _ _ _ e=>e);replace hb:=ah (hb.trans' h4');have hs:=ah (Jz NS api hv (dS (S:=fun _=>True) NS (b:=w4) cY bw aj));have ar4:(DRV.toList==[99,108,97,115,115,32,77,65,73,78,32,99,114,101,97,116,101,32,109,97,107,101,32,102,101,97,116,117,114,101,32,123,32,65,78,89,32,125,32,109,97,107,101,32,108,111,99,97,108,32,99,32,58,32,67,79,85,78,84,69,82,32,100,111,32,99,114,101,97,116,101,32,99,32,46,32,109,97,107,101,32,59,32,99,32,46,32,97,100,100,32,40,32,50,32,41,32,59,32,112,117,116,32,99,32,46,32,99,111,117,110,116,32,59,32,101,110,100,32,101,110,100,10])=true:=bh;go_wp2_with fail;refine hs.mono ?_;rintro e w5 ⟨rfl,k5⟩;replace hb:=ah ((hb.alloc _).trans' k5);go_wp2_with (go_at_call 27;refine(Zh _ _ _ _).mono ?_;rintro e z ⟨rfl,g⟩;replace hb:=ah (hb.trans' g);clear g);refine bD (Pg .ints mZ ajp [9,5] 0 rfl rfl aj aj bh bh _) fun z g=>?_;replace hb:=ah (hb.trans' g);go_wp2_with (go_at_call 27;refine(Zh _ _ _ _).mono ?_;rintro e z ⟨rfl,g⟩;replace hb:=ah (hb.trans' g);clear g);refine bD (Pg .sorted mZ ac0 [2] 1 rfl rfl aj aj bh bh _) fun z g=>?_;replace hb:=ah (hb.trans' g);go_wp2_with (go_at_call 27;refine(Zh _ _ _ _).mono ?_;rintro e z ⟨rfl,g⟩;replace hb:=ah (hb.trans' g);clear g);refine bD (Pg .table mZ ag9 [1,8,0] 0 rfl rfl aj aj bh bh _) fun z g=>?_;replace hb:=ah (hb.trans' g);go_wp2_with (go_at_call 27;refine(Zh _ _ _ _).mono ?_;rintro e z ⟨rfl,g⟩;replace hb:=ah (hb.trans' g);clear g);refine bD (Pg .arith mZ aha [6,1024,120,3] 107 rfl rfl aj aj bh bh _) fun z g=>?_;replace hb:=ah (hb.trans' g);go_wp2_with (go_at_call 27;refine(Zh _ _ _ _).mono ?_;rintro e z ⟨rfl,g⟩;replace hb:=ah (hb.trans' g);clear g);refine bD (Pg .range mZ ahb [4,18] 1 rfl rfl aj aj bh bh _) fun z g=>?_;replace hb:=ah (hb.trans' g);go_wp2_with fail;go_ret;exact⟨rfl,hb⟩
end Go.Proofs.Gm
namespace Go.Proofs.YtibajhihfaggfaaGreatDoor.Btx
open Go.Proofs.Tryz
open Go.ChangeShapes Go.WideShapes Go.ChangeAt Go.RowKit Go.Deep Go.Proofs.Bm Go.Proofs.Gm
def own:ownKnob prog.godebug=none:=by kernel_rfl
def laidOut:laidOutB prog=true:=by kernel_rfl
def apj(b off n:Nat):(⟨b,off,none⟩:Addr).add n=⟨b,off+n,none⟩:=by simp[Addr.add]
def ac3{W:World}{base:Nat}{a:Addr}{n c:Nat}(h:Value.okWide prog W .any base 22 (.slice (some a) n c)):a.spot=none/\a.block < W.heap.size:=by
 simp only[Value.okWide,underlying22,Cell.okWide,Cell.ok] at h;obtain⟨_,_,_,hs,row,cells,hr,_⟩:=h;refine⟨hs,?_⟩;unfold World.shape? at hr
 cases hb:W.heap[a.block]? with
 |none=>rw[hb] at hr;simp at hr
 |some o=>exact(aQ.1 hb).1
def Zi{H:Type}{wP:TypeId×Value->H}{W:World}{a0:Option Addr}{len cap fuel base:Nat}{x:DataW H×List MemPlace}(ho:Value.okWide prog W .any base 22 (.slice a0 len cap))(hf:DataW.trod wP prog W 0 (fun _=>true) true fuel 22 [.slice a0 len cap]=some x):∃ns:List (List Nat),ns.length=len/\(∀s∈ns,bW s)/\an (fun _=>True) W (.sl (Gm.strs ns)) (.slice a0 ns.length cap):=by
 rcases open_slice1 underlying22 af hf with⟨fY,_⟩|⟨a,ar5,xV,m,n,V,D,Pl,fY,_,hl,hc,hm,_,hi⟩
 ·simp at fY;obtain⟨rfl,rfl,rfl⟩:=fY;exact⟨[],rfl,nW,.nil⟩
 ·simp at fY;obtain⟨rfl,rfl,rfl⟩:=fY;simp only[xN] at hm;obtain⟨hsp,hb⟩:=ac3 ho;obtain⟨b,off,spot⟩:=a;obtain rfl:spot=none:=hsp;have hex:∀i,∃x:List Nat,bW x/\(i < len->W.cell? ⟨b,off+i,none⟩=some (.string (bs x))):=by
   intro i;by_cases hil:i < len
   ·obtain⟨c0,r0⟩:=hi i ab;obtain⟨s,e0,_,_⟩:=DataW.trod_string underlying9 r0;simp only[IZ,xO] at e0;rw[apj,e0] at c0;exact⟨s.data.toList.map UInt8.toNat,Rb s,fun _=>by rw[IC,c0]⟩
   ·exact⟨[],nW,fun h=>absurd h hil⟩
  obtain⟨g,hg⟩:=Classical.axiomOfChoice hex;have hlen:(Gm.strs ((List.range len).map g)).length=len:=by simp[Gm.strs]
  refine⟨(List.range len).map g,by simp,fun s hs=>by obtain⟨k,_,rfl⟩:=dO.1 hs;exact(hg k).1,?_⟩;have aL:∀(k:Nat) (row:Row),(Gm.strs ((List.range len).map g))[k]?=some row->k < len/\row=[.str (g k)]:=by
   intro k row h;have hk:k < len:=by have:=(dk.1 h).1;omega
   refine⟨hk,?_⟩;unfold Gm.strs at h;rw[qC,qC,List.getElem?_range hk] at h;exact(j6 h).symm
  have h1:=an.sl (S:=fun _=>True) (w:=W) (Gm.strs ((List.range len).map g)) b off cap 1 (fun k _=>.string (bs (g k))) bw hb ab hc (fun row h=>by
    obtain⟨k,hk⟩:=Xf.1 h;rw[(aL k row hk).2];rfl) (fun k j row t h hj=>by
    obtain⟨hk,rfl⟩:=aL k row h
    match j,hj with
    |0,_=>rw[B6,fS];exact(hg k).2 hk
    |_+1,hj=>simp at hj) (fun k j row t h hj=>by
    obtain⟨hk,rfl⟩:=aL k row h
    match j,hj with
    |0,hj=>cases hj;exact .str _
    |_+1,hj=>simp at hj)
  rw[hlen] at h1;rw[Af,List.length_range];exact h1
def TQ{w:World}(h:w.ShapedOpen prog):∃m,w.cell? ⟨1,0,none⟩=some (.int .i64 m):=by
 obtain⟨cs,hh,hs,hr⟩:=h.1 1 #[oZ] 3 (by rw[show prog.globals.size=9 by kernel_rfl];omega) af;obtain⟨ts,hts,_,mu⟩:=hr af;rw[show prog.cellTypes prog.depth 3=some [3] by kernel_rfl] at hts
 cases hts;have h1:0 < cs.size:=by rw[hs];decide
 obtain⟨u,hu',bL⟩:=mu 0 cs[0] (by simp[h1]);have:u=3:=by simpa using hu'.symm
 subst this;have xp:w.cell? ⟨1,0,none⟩=some cs[0]:=by simp[World.cell?,hh,h1]
 rw[xp];unfold Cell.ok at bL;rw[underlying3] at bL
 cases hv:cs[0]<;>rw[hv] at bL<;>first|exact⟨_,by rw[bL.1]⟩|simp at bL
def amL{W:World}(hL:laidMet prog Rows.baseTextsRow.laid W)(eF:W.ShapedOpen prog):Env W:=by have h5:=M5 (M5 (M5 (M5 (M5 hL))));have he:(Rows.laid_strings_asciiSpace:DataW Unit)=Lib.tabData .u8 Lib.asciiSpaceTab:=af;rw[he] at h5;exact⟨Lib.tabIs_of_head (g:=6) (t:=337) (e:=5) af af underlying337 underlying5 af af h5,TQ eF⟩
def contract(H:Type)(wP:TypeId×Value->H)(W:World)(base:Nat)(args:Array Value)(ds gs:List (DataW H))(before:List MemPlace)(hE:Env W)(yZ:∀(j:Nat) t v,f3.params[j]?=some t->args[j]?=some v->Value.okWide prog W .any base t v)(hW:DataW.Whole wP prog f3.params.toList Rows.baseTextsSpec.vars false W args.toList ds gs before):Calls prog 3 args W fun e W'=>∃v,e=.returned v/\Rows.baseTextsSpec.post wP prog f3 false true false false W args v W':=by
 have hW':=hW;obtain⟨p,q,N4,hV,rfl,hfz,Ij⟩:=hW;have hA:DataW.TrodAll wP prog W 0 (fun _=>true) true f3.params.toList args.toList ds p:=N4;rw[Tryz.params3] at hA yZ;obtain⟨v0,v1,d0,d1,p0,p1,rfl,rfl,rfl,h0,h1⟩:=trodAll_two hA;obtain⟨rfl,rfl⟩:=trodVars_none hV;obtain⟨s,rfl⟩:=okWide_string underlying9 (yZ 0 9 v0 rfl rfl);obtain⟨a0,len,cap,rfl⟩:=okWide_slice underlying22 (yZ 1 22 v1 rfl rfl);have h0k:=h0;have h1k:=h1;obtain⟨fuel,hf⟩:=h1;simp only[gp] at hW';have bQ:∀x∈p0++p1,x.block < W.heap.size:=fun x hx=>by simpa using hW'.lt x hx
 obtain⟨ns,rfl,bL,hx⟩:=Zi (yZ 1 22 _ rfl rfl) hf;have apk:=aq1 ajs (nm:=s.data.toList.map UInt8.toNat) (Rb s) hx bL hE;rw[IC] at apk;refine apk.mono fun e W' ⟨he,hk⟩=>?_;subst he;have bel:Below W.heap.size W W':=⟨hk.os,hk.tape,hk.output,hk.size,fun b hb=>hk.block b hb (fun e=>e)⟩
 refine⟨_,rfl,_,_,_,[],p0++p1,[],hW',?_,?_,rfl,bel.frame _,fun h=>by cases h⟩
 ·exact trodAll_cons_mk (shut_bool underlying4 _) trodAll_mk0
 ·exact trodAll_mk2 (Below.trod laidOut af (Rt af) h0k bel (fun x hx=>bQ x (by simp[hx]))) (Below.trod laidOut af (Rt af) h1k bel (fun x hx=>bQ x (by simp[hx])))
def Zj{H:Type}{wP:TypeId×Value->H}{C:Checked}{os:Os}{f:FuncId}{fn:Func}{s:OpenSpec}{conds:List PathCond}{apart:Bool}{laid:List (String×DataW Unit)}(modest:Bool)(w0:World)(args:Array Value)(hos:w0.os=os)
  (eF:(w0.forCall (fun _ _=>0) ⟨#[],args,[]⟩).Shaped C.prog) (bL:Input.okWideB C.prog (w0.forCall (fun _ _=>0) ⟨#[],args,[]⟩) f ⟨#[],args,[]⟩=true)
  (aL:s.preRow wP C.prog fn conds apart laid (w0.forCall (fun _ _=>0) ⟨#[],args,[]⟩).memory args):
  ∃(w:World) (tape:Tape) (i:Input),w.os=os/\(w.forCall tape i).Shaped C.prog/\i.vars=[]/\Input.okWide C.prog (w.forCall tape i) .any w.heap.size f i/\
   s.preRow wP C.prog fn conds apart laid (w.forCall tape i).memory i.args/\({modest:=modest}:Assume).holds C.prog (lone (Frame.enter C.prog f i.args .normal) [] (w.forCall tape i)):=
 ⟨w0,fun _ _=>0,⟨#[],args,[]⟩,hos,eF,(Input.okWide_of_okWideB (base:=0) bL).1,(Input.okWide_of_okWideB bL).2,aL,by
  simp only[Assume.holds];exact⟨by simp,by simp,fun _=>Modest.zero,by simp,by simp⟩⟩
def lifted(os:Os)(started:os.Started)(H:Type)(wP:TypeId×Value->H)(F:Stop.Interp):ReturnsInHanded {} Tryz.checked os 3 .any ((OpenSpec.ofChange Rows.baseTextsSpec).preRow wP prog f3 Rows.baseTextsRow.domain false Rows.baseTextsRow.laid) (((OpenSpec.ofChange Rows.baseTextsSpec).at F).post wP prog f3 false true false false):=by
 refine returnsInHanded_of_row (C:=Tryz.checked) (s:=OpenSpec.ofChange Rows.baseTextsSpec) own started af func3 ?_ ?_
 ·have hx:∃ahg,DataW.whole wP prog ((World.laidAll prog os Rows.baseTextsRow.laid).forCall (fun _ _=>0) ⟨#[],#[eS,nS],[]⟩).memory f3.params.toList Rows.baseTextsSpec.vars false #[Value.string ⟨#[]⟩,Value.slice none 0 0].toList 8=some ([.lit (.string []),.nil],[],ahg):=⟨[],by kernel_rfl⟩
  obtain⟨ahg,hx⟩:=hx;exact Zj false (World.laidAll prog os Rows.baseTextsRow.laid) #[eS,nS] (World.laidAll_os _ _ _) (World.shaped_of_ZipB af af) af
   (OpenSpec.preRow_of_cond 8 hx af sy af (laidMet_laidAll _ af af))
 intro W base args ds gs before yZ hW _ _ _ hL eF _;exact contract H wP W base args ds gs before (amL hL eF) yZ hW
def said:Rows.BaseTextsSaid:=
 OpenClaim.holds_of_cond 3 f3 rfl rfl rfl rfl rfl rfl rfl ⟨rfl,rfl,rfl,rfl,rfl⟩ rfl rfl rfl rfl rfl af func3 closed
  (of_decide_eq_true af) (by unfold Func.isWrapper;first|(rw[if_pos bh];kernel_rfl)|(rw[if_neg bh];exact⟨rfl,rfl⟩))
  (fun os started H wP _ F=>by rw[OpenClaim.pre_eq_preRow];exact lifted os started H wP F)
def plain(f:FuncId)(fn:Func)(hf:Tryz.pinned.checked.prog.funcNamed "cosigner/cosignerlaw26.BaseTexts"=some f)(hfn:Tryz.pinned.checked.prog.funcs[f]?=some fn):true=Tryz.pinned.checked.prog.looks []/\∀(j:Nat) t,fn.params[j]?=some t->Tryz.pinned.checked.prog.wantsStandIn t=false:=by
 obtain rfl:f=3:=j6 ((show prog.funcNamed "cosigner/cosignerlaw26.BaseTexts"=some 3 by kernel_rfl).symm.trans hf) |>.symm;obtain rfl:fn=f3:=(j6 (func3.symm.trans hfn)).symm;refine⟨by kernel_rfl,fun j t ht=>?_⟩;rw[Tryz.params3] at ht;have h3:t=9∨t=22:=by
  rcases j with _|_|j
  ·exact .inl (by simpa using ht.symm)
  ·exact .inr (by simpa using ht.symm)
  ·simp at ht
 rcases h3 with rfl|rfl
 ·exact(show prog.wantsStandIn 9=false by kernel_rfl)
 ·exact(show prog.wantsStandIn 22=false by kernel_rfl)
theorem card:Rows.BaseTextsCardSaid:=
 Claim7.holds_tied_plain_at .later [] _ _ _ _ said nW af nW baseTexts_row_tie rfl ⟨rfl,rfl⟩ af rfl plain af
#print axioms card
end Go.Proofs.YtibajhihfaggfaaGreatDoor.Btx
