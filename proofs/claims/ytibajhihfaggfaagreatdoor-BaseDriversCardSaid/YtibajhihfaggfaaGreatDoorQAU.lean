/- BaseDrivers. No condition. -/
import Derived.Test.YtibajhihfaggfaaGreatDoorQAT
set_option linter.all false
set_option maxRecDepth 100000
set_option maxHeartbeats 0
namespace Go.Proofs.Gm
open Go.Proofs.Tryz Go.RowKit Go.Maps Go.Proofs.Bm
variable {nm s:Yz}{S:Wq}{k g b i bx:Nat}{a:YS}{l A ns:Y9}{V W:YC}{v:YE}{n:Int}{rest:RM}{o:RZ}
def aoy:(prog.info? 9).map (λi=>(i.zero,i.size,i.bytes))=some (some (.string ⟨#[]⟩),1,16):=by kernel_rfl
def OS(W:YC)(V:YC)(v:YE)(l:Y9):Prop:=OwnR W.heap.size W V 9 1 v (strs l)
def aci(l:Y9)(s:Yz):strs l++[[T.str s]]=strs (l++[s]):=by simp[strs]
def OS.form{W V:YC}{v:YE}{l:Y9}(h:OS W V v l):∃a c,v=sV a l.length c:=by obtain⟨a,c,e⟩:=OwnR.form h;exact⟨a,c,by rw[e];simp[strs]⟩
def OS.no{V':YC}(h:OS W V v l)(hk:Kept aK V V'):OS W V' v l:=OwnR.kept h hk (λ_ _ _ e=>e) λ_ _ e=>e
def OS.cell(h:OS W V v l):an W V (.sl (strs l)) v:=OwnR.afp h (λ_ h _=>h) λb e=>(OwnR.lt h b e).1
def OS.app{ops:Ws}{a:Act}{Q:VN}(hg:o.guard=none)(s x:Rj)(o7:o.op=Op.call {callee:=Callee.builtin Builtin.append,args:=#[s,x],argTypes:=#[22,22]})
  (h:OS W V v l) (hs:a.eval s=v) (z:Yz) (hx:a.eval x=sV V 1 1) (hW:W.heap.size<=V.heap.size) (hl:l.length<=1000000)
  (hK:∀v' V',OS W V' v' (l++[z])->Kept (λj=>W.heap.size<=j) (V.alloc (cO #[z] 9)) V'->wpList prog ops Q rest (a.put o.dst v') V'):wpList prog ops Q (o::rest) a (V.alloc (cO #[z] 9)):=by
 obtain⟨i,hi,hz,dM,dY⟩:=dN aoy;refine bu (P:=prog) underlying22 hi hz dM dY rfl ab ab hg s x o7 hs ⟨V,0,none⟩ 1 hx [.string (bs z)] [z] (h.no ((Kept.refl aK V).alloc _)) aH (by simpa[strs] using hl) rfl (cell_one_new _ _ _) (.cons (.str _) .nil) ?_;intro v' V' h1 h2 _;rw[aci] at h1;exact hK v' V' h1 (h2.mono λb hb=>(OwnR.lt h b hb).1)
def ID(hk:k < 12):bW (eN.getD k []):=by rw[rA,ck (by exact hk)];exact BG _ (Ug _)
def aoz(w:YC)(s t:YR)(a:YS)(m c:Nat):Calls prog 37 #[.agg #[.string s,sV a m c,.string t]] w λe w'=>e=.returned (.string s)/\Kept aK w w':=by go_enter func37,ntmps37;exact asI
def aoA{w:YC}(hx:an S w (.sl (ach prog)) (sV g 12 12)):Calls prog 36 #[sV g 12 12,.func (.func 37) #[] #[]] w λe w'=>∃a c,e=.returned (sV a 12 c)/\an w w' (.sl (strs eN)) (sV a 12 c)/\Kept aK w w':=by
 replace hx:=ah hx;go_enter func36,ntmps36;go_wp2_with fail;go_loopg [5,10] 12 (λgg s5 s10 wr=>∃k:Nat,s10=iV k/\k+gg=12/\Hid (OS w wr s5 (eN.take k))/\Hid (Kept aK w wr))
 case atStart=>exact⟨0,rfl,rfl,OwnR.nil,Kept.refl _ _⟩
 case round=>
  obtain⟨k,rfl,hk,hO,hK⟩:=hrel;obtain⟨a0,c0,rfl⟩:=hO.out.form;have Am:(eN.take k).length=k:=by rw[sK];exact MO (by show k<=12;omega)
  rw[Am] at hO|-;by_cases bQ:k < 12
  .refine Gg ?_;intro bC a c v1 q0 q1 q2 xY oL;obtain⟨ML,Ab⟩:∃m,(zO.getD k []).length=m:=⟨_,rfl⟩
   obtain⟨NM,BS⟩:∃m,eN.getD k []=m:=⟨_,rfl⟩
   rw[Ab] at q1;rw[BS] at q0;revert Ab BS;refine ct ?_;intro Ab BS;go_wp2_with fail;refine bD (aoz _ _ _ _ _ _) λw2 K2=>?_;have gu:=hK.trans' (((Kept.refl aK wr).alloc (cO #[NM,sV a ML c,(tL prog k)] 64)).trans' K2);have qY:=ah (hO.no (((Kept.refl aK wr).alloc (cO #[NM,sV a ML c,(tL prog k)] 64)).trans' K2));go_wp2_with (at_builtin;refine OS.app rfl (.tmp 14) (.tmp 18) rfl qY rfl NM rfl gu.size (by rw[Am];omega) ?_;intro v4 w4 T5 yu);obtain⟨a5,c5,rfl⟩:=T5.form;have hl5:(eN.take k++[NM]).length=k+1:=atV;rw[hl5] at T5|-;go_wp2_with fail;go_roundg (gk - 1)
   case measure=>omega
   case rel=>
    refine⟨k+1,by simp,by omega,?_,(gu.alloc _).trans yu λb hb e=>by omega⟩;have e:eN.take (k+1)=eN.take k++[NM]:=by rw[wZ,<-BS.out,rA,ck (show k < eN.length from bQ)];rfl
    rw[e];exact T5
  .have afQ:k=12:=by omega
   subst afQ;exact atw
def aaS(w:YC):Calls prog 13 #[] w λe w'=>∃a c,e=.returned (sV a 12 c)/\an w w' (.sl (strs eN)) (sV a 12 c)/\Kept aK w w':=by go_enter func13,ntmps13;go_wp2_with fail;refine(afN _).mono ?_;rintro e w1 ⟨g,rfl,hx,K1⟩;have h2:=ah (aoA hx);go_wp2_with fail;refine h2.mono ?_;rintro e w2 ⟨a,c,rfl,hv,K2⟩;go_wp2_with fail;go_ret;exact⟨a,c,rfl,hv.mono λb hb _=>cn K1.size hb,K1.trans' K2⟩
def lh(k:Nat):List (List Nat):=eN.filter λn=>n==eN.getD k []||(zO.getD k []).contains n
def aoB{w:YC}{c:Nat}(hx:an S w (.sl (strs l)) (sV a l.length c))(hl:∀s∈l,bW s)(hn:l.length<=1000){s:Yz}(hs:bW s):Calls prog 62 #[sV a l.length c,.string (bs s)] w λe w'=>e=.returned (.bool (l.contains s))/\w'=w:=by
 cases l with
 |nil=>exact Tryz.slices_Contains_string_empty a c (bs s) w
 |cons y l=>
  have hg:∃g off,a=some ⟨g,off,none⟩:=by obtain⟨g,off,e,-⟩:=hx.elem (k:=0) (row:=[y]) rfl;exact⟨g,off,e⟩
  obtain⟨g,off,rfl⟩:=hg;refine(Tryz.slices_Contains_string g off (y::l).length c ((y::l).map bs) (bs s) w ai (by simp at hn|-;omega) (λj hj=>?_)).mono ?_
  .have WA:j < (y::l).length:=by simpa using hj
   obtain⟨g',VP,e,-,cs,hR,hc⟩:=hx.elem (k:=j) (row:=[.str ((y::l)[j])]) (by unfold strs;rw[List.getElem?_map,List.getElem?_eq_getElem WA];rfl);obtain⟨c0,Ap,rfl,v0,r0⟩:=hR.aG
   cases r0.jO;cases v0.bq;simp only[wY,I0,xO] at e;obtain⟨rfl,rfl⟩:=e;have:=hc 0 _ rfl;rw[rA,qC,ck WA];simpa using this
  .rintro e w' ⟨rfl,rfl⟩;refine⟨?_,rfl⟩;congr 2
   rw[oh ai,sM,Lib.containsS_iff,MK];constructor
   .intro h;obtain⟨z,hz,e⟩:=dO.1 h;exact Jh (hl z hz) hs e▸hz
   .intro h;exact dO.2 ⟨s,h,rfl⟩
def alV(k:Nat):(∀s∈zO.getD k [],bW s)/\(zO.getD k []).length<=2:=by
 rw[rA]
 cases e:zO[k]? with
 |none=>exact⟨λs h=>asD,by simp⟩
 |some l=>
  have h:∀l∈zO,(∀s∈l,bW s)/\l.length<=2:=by unfold zO bW;decide
  exact h l (cm e)
def aj2{w:YC}(afQ:k < 12){a:YS}{c:Nat}(t:YR)(hx:an S w (.sl (strs (zO.getD k []))) (.slice a (zO.getD k []).length c)):Calls prog 31 #[.agg #[.string (bs (eN.getD k [])),.slice a (zO.getD k []).length c,.string t]] w λe w'=>∃a c,e=.returned (.slice a (lh k).length c)/\an w w' (.sl (strs (lh k))) (.slice a (lh k).length c)/\Kept aK w w':=by
 obtain⟨Ij,Pt⟩:=alV k;have hna:=ID afQ;obtain⟨ML,Ab⟩:∃m,(zO.getD k []).length=m:=⟨_,rfl⟩
 obtain⟨NM,BS⟩:∃m,eN.getD k []=m:=⟨_,rfl⟩
 have hc0:=fun(s:Yz) (hs:bW s) (V:YC) (hK:Kept aK w V)=>aoB (hx.mono (S':=λb=>True) (λ_ _ _=>bw) |>.kept hK (λ_ _ _ e=>e)) Ij ab hs;rw[Ab] at hc0|-;rw[BS] at hna|-;obtain⟨W,hW⟩:∃W,W=w.alloc (cO #[NM,sV a ML c,t] 64):=⟨_,rfl⟩
 have hb:W.heap[w.heap.size]?=some (.cells #[NM,sV a ML c,t] 64 (0,0)):=mO;have dZ:Kept aK w W:=eW;revert Ab BS hc0 hW hb dZ;refine LX ?_;intro Ab BS hc0 hW hb dZ;go_enter func31,ntmps31;go_wp2_with fail;rw[<-hW.out];refine(aaS _).mono ?_;rintro e w1 ⟨ga,gc,rfl,hv,K1⟩;have lL:=ah (aJ hb.out K1);have Io:=ah (dZ.trans' K1);replace hv:=ah hv;go_wp2_with fail;go_loopg [3,8] 12 (λgg s3 s8 wr=>∃j:Nat,s8=iV j/\j+gg=12/\Hid (OS w1 wr s3 ((eN.take j).filter λn=>n==NM||(zO.getD k []).contains n))/\Hid (Kept aK w1 wr))
 case atStart=>exact⟨0,rfl,rfl,OwnR.nil,Kept.refl _ _⟩
 case round=>
  obtain⟨j,rfl,hj,hO,hK⟩:=hrel;by_cases bQ:j < 12
  .obtain⟨NJ,hNJ⟩:∃m,eN.getD j []=m:=⟨_,rfl⟩
   have hnj:bW NJ:=hNJ▸ID bQ;have e:eN.take (j+1)=eN.take j++[NJ]:=by rw[wZ,<-hNJ,rA,ck (show j < eN.length from bQ)];rfl
   obtain⟨g',off,eg,-,cs,hR,hc⟩:=hv.out.elem (k:=j) (row:=[NJ]) (by unfold strs;rw[List.getElem?_map,<-hNJ,List.getD_eq_getElem?_getD,List.getElem?_eq_getElem (show j < eN.length from bQ)];rfl);obtain⟨c0,Ap,rfl,v0,r0⟩:=hR.aG
   cases r0.jO;cases v0.bq;subst eg;have q0:=hK.aq (hc 0 _ rfl) (λe=>e);have h1:([T.str NJ]:Row).length=1:=rfl;rw[h1,fS,B6] at q0;have hbj:=aJ lL hK;have d0:=aC hbj 0;have d1:=aC hbj 1;have xY:(j:Int) < 12:=ab;have oL:(0:Int)<=(j:Int):=ab;obtain⟨CB,hCB⟩:∃b,(zO.getD k []).contains NJ=b:=⟨_,rfl⟩
   have hcj:=hc0 NJ hnj wr (Io.trans' hK);rw[hCB] at hcj;replace hcj:=ah hcj;have heq:=cH hnj hna;obtain⟨L0,hL0⟩:∃L,(eN.take j).filter (λn=>n==NM||(zO.getD k []).contains n)=L:=⟨_,rfl⟩
   have arP:L0.length<=12:=by rw[<-hL0];exact cn (Qs _ _) (by rw[sK];exact Nat.min_le_right _ _)
   rw[hL0] at hO;obtain⟨a0,c0,rfl⟩:=hO.out.form;have nn:(eN.take (j+1)).filter (λn=>n==NM||(zO.getD k []).contains n)=L0++(if(NJ==NM||CB)=true then[NJ] else[]):=by rw[e,List.filter_append,hL0,<-hCB];simp[List.filter_cons]
   revert hNJ hbj hL0 nn;refine jU ?_;intro hNJ hbj hL0 nn;by_cases he:NJ=NM
   .have hee:(NJ==NM)=true:=by simpa using he
    rw[hee] at heq;subst he;go_wp2_with (at_builtin;refine OS.app rfl (.tmp 22) (.tmp 24) rfl hO rfl NJ rfl hK.size ab ?_;intro v4 w4 T5 yu;obtain⟨a5,c5,rfl⟩:=T5.form;rw[show(L0++[NJ]).length=L0.length+1 by rw[j0];rfl]);go_roundg (gk - 1)
    case measure=>omega
    case rel=>exact⟨j+1,by simp,by omega,by have h:=nn.out;rw[hee,Bool.true_or,aI rfl] at h;rw[h];rw[show L0.length+1=(L0++[NJ]).length by rw[j0];rfl];exact T5,(hK.alloc _).trans yu λb hb e=>by omega⟩
   .have hee:(NJ==NM)=false:=by simpa using he
    rw[hee] at heq;replace hCB:=ah hCB
    cases CB with
    |false=>
     go_wp2_with (go_at_call 62;refine hcj.mono ?_;rintro e w2 ⟨rfl,rfl⟩);go_roundg (gk - 1)
     case measure=>omega
     case rel=>exact⟨j+1,by simp,by omega,by have h:=nn.out;rw[hee] at h;rw[h];show OS w1 w2 _ (L0++[]);rw[gp];exact hO,hK⟩
    |true=>
     go_wp2_with (first|(go_at_call 62;refine hcj.mono ?_;rintro e w2 ⟨rfl,rfl⟩)|(at_builtin;refine OS.app rfl (.tmp 22) (.tmp 24) rfl hO rfl NJ rfl hK.size ab ?_;intro v4 w4 T5 yu;obtain⟨a5,c5,rfl⟩:=T5.form;rw[show(L0++[NJ]).length=L0.length+1 by rw[j0];rfl]));go_roundg (gk - 1)
     case measure=>omega
     case rel=>exact⟨j+1,by simp,by omega,by have h:=nn.out;rw[hee] at h;rw[h];rw[show L0.length+1=(L0++[NJ]).length by rw[j0];rfl];exact T5,(hK.alloc _).trans yu λb hb e=>by omega⟩
  .have aox:j=12:=by omega
   subst aox;have L5:(eN.take 12).filter (λn=>n==NM||(zO.getD k []).contains n)=lh k:=by unfold lh;rw[BS.out];rfl
   rw[L5] at hO;obtain⟨a0,c0,rfl⟩:=hO.out.form;obtain⟨KL,sc⟩:∃m,(lh k).length=m:=⟨_,rfl⟩
   rw[sc] at hO|-;replace sc:=ah sc;go_wp2_with fail;go_ret;refine⟨_,_,by rw[sc.out];rfl,?_,Io.trans' hK⟩;rw[sc.out];exact hO.cell.mono λb hb _=>cn Io.size hb
def afR(nm:Yz)(w:YC)(e:TP)(w':YC):Prop:=
 (∃(k:Nat) (a:YS) (c:Nat),k < 12/\nm=eN.getD k []/\e=.returned (.tuple #[.slice a (lh k).length c,oZ])/\an w w' (.sl (strs (lh k))) (.slice a (lh k).length c)/\Kept aK w w')∨
 (nm∉eN/\e=.returned (.tuple #[nS,iV 4])/\Kept aK w w')
def afS(hm:bW nm)(w:YC):Calls prog 8 #[nm] w (afR nm w):=by
 go_enter func8,ntmps8;go_wp2_with fail;refine(Ts hm _).mono ?_;rintro e w1 (⟨k,a,c,hk,Md,rfl,hv,K1⟩|⟨eK,rfl,K1⟩)
 .have mu:=hv.kept ((Kept.refl aK w1).alloc (cO #[nm,.slice a (zO.getD k []).length c,(tL prog k)] 64)) (λ_ _ _ e=>e);have ha:=ah (aj2 hk (bs (tL prog k)) mu);obtain⟨ML,Ab⟩:∃m,(zO.getD k []).length=m:=⟨_,rfl⟩
  rw[Ab,<-Md] at ha;rw[Ab];revert Md Ab;refine ct ?_;intro Md Ab;go_wp2_with (first|refine QW ?_|(go_at_call 31;refine ha.mono ?_;rintro e w2 ⟨a2,c2,rfl,jo,K2⟩));refine bG (B8 rfl _ _ _) rfl ?_;exact .inl ⟨k,a2,c2,hk,Md,rfl,jo.mono λb hb _=>cn (K1.alloc _).size hb,(K1.alloc _).trans' K2⟩
 .go_wp2_with (refine QW ?_);refine bG (B8 rfl _ _ _) rfl ?_;exact .inr ⟨eK,rfl,K1.alloc _⟩
def aiQ:((List.range 12).all λk=>decide ((tL prog k).length<=4000))=true:=by decide+kernel
def Nc(hk:k < 12):(tL prog k).length<=4000:=by have:=dV.1 aiQ k (BZ.2 hk);simpa using this
def OZ(k k0:YR)(v:YE):∀(L:List (ByteArray×Value)) (j:Nat),lT k (L++[(k0,v)]) j=match lT k L j with|some x=>some x|none=>if k==k0 then some (j+L.length,v) else none
 |[],j=>by simp[lT]
 |p::r,j=>by
  simp only[qF,lT];split
  .rfl
  .rw[OZ k k0 v r (j+1)]
   cases lT k r (j+1) with
   |some x=>rfl
   |none=>simp only[dC];split<;>simp;omega
def MB(w:YC)(b:Nat)(A:Y9):Prop:=∃L,dG w b L/\∀s,bW s->(s∈A->∃i,lT (bs s) L 0=some (i,.bool true))/\(s∉A->lT (bs s) L 0=none)
def aaU:prog.underlying 69=some (.map 9 4):=by kernel_rfl
def afW:prog.underlying 9=some .string:=by kernel_rfl
def MB.new(w:YC):MB (w.alloc (.map #[] 0)) w.heap.size []:=⟨[],by unfold dG;rw[heap_alloc,if_pos rfl];rfl,λs _=>⟨λh=>asD,λ_=>rfl⟩⟩
def MB.lt{w:YC}(h:MB w b A):b < w.heap.size:=by obtain⟨L,hD,-⟩:=h;exact(aQ.1 hD).1
def MB.kept{w w':YC}{F:Wq}(h:MB w b A)(hk:Kept F w w')(hF:¬F b):MB w' b A:=by obtain⟨L,hD,hL⟩:=h;exact⟨L,(hk.block b (aQ.1 hD).1 hF).trans hD,hL⟩
def YH{P:T1}{w:YC}{T kT eT:UB}{L:List (ByteArray×Value)}(hT:P.underlying T=some (.map kT eT))(hk:P.underlying kT=some .string)(hD:dG w b L){k:YR}{i:Nat}{v:YE}(dq:lT k L 0=some (i,v)):(Instr.mapUpdate T (.map (some b)) (.string k) v).run P w=.ok () w:=by
 have sT:=hD;unfold dG at sT;obtain⟨_,q,h2,rfl,rfl⟩:=yT dq;have he:=wL L i 0 q jb;simp only[fi] at he;have hm:((nh L 0).toArray.modify i λe=>{key:=.string q.1,val:=q.2,born:=e.born})=(nh L 0).toArray:=by exact Ec
 have hs:Go.ChangeMaps.setBlock w b (.map (nh L 0).toArray L.length)=w:=by
  unfold Go.ChangeMaps.setBlock;congr 1
  apply Rn
  intro j;rw[IX];split
  .rename_i e;rw[<-e,aI (aQ.1 sT).1];exact sT.symm
  .rfl
 have hsb:Instr.sameBits 10000 (.string q.1) (.string q.1)=true:=by simp[Instr.sameBits]
 simp[Instr.mapUpdate,B7 hT,JJ sT,run_checkKey hk,run_findKey hk,dq,MZ _ sT,Instr.keyThatStays,he,hsb];have PN:=hm;simp at PN;rw[PN,Lx,hs]
def MB.put{w:YC}(h:MB w b A){s:Yz}(hs:bW s):∃w',(Instr.mapUpdate 69 (.map (some b)) (.string (bs s)) (.bool true)).run prog w=.ok () w'/\MB w' b (s::A)/\Kept (λj=>j=b) w w':=by
 obtain⟨L,hD,hL⟩:=h;by_cases lQ:s∈A
 .obtain⟨i,hi⟩:=(hL s hs).1 lQ;exact⟨w,YH aaU afW hD hi,⟨L,hD,λt ht=>⟨λh=>(hL t ht).1 ((cZ.1 h).elim (λe=>e▸lQ) id),λh=>(hL t ht).2 λh2=>h (eC _ h2)⟩⟩,Kept.refl _ _⟩
 .obtain⟨w',h1,h2,h3,h4⟩:=rN (P:=prog) aaU afW hD ((hL s hs).2 lQ) (.bool true);refine⟨w',h1,⟨_,h2,λt ht=>⟨λh=>?_,λh=>?_⟩⟩,⟨h3.os,h3.tape,h3.output,h3.size,λk hk hn=>h3.block k hk λe=>hn (j6 e)⟩⟩
  .rw[OZ];by_cases htA:t∈A
   .obtain⟨i,hi⟩:=(hL t ht).1 htA;exact⟨i,by rw[hi]⟩
   .obtain rfl:t=s:=(cZ.1 h).resolve_right htA;exact⟨_,by rw[(hL t ht).2 htA];simp;rfl⟩
  .rw[OZ,(hL t ht).2 λh2=>h (eC _ h2)];simp only;rw[aE];intro e;have e:=Jh ht hs ql;exact h (by rw[e];simp)
def aoH(w:YC):(zeroValue 4).run prog w=.ok (.bool false) w:=by kernel_rfl
def MB.has{w:YC}(h:MB w b A){s:Yz}(hs:bW s):(Instr.lookup 69 (.map (some b)) (.string (bs s)) false).run prog w=.ok (.bool (decide (s∈A))) w:=by
 obtain⟨L,hD,hL⟩:=h;by_cases lQ:s∈A
 .obtain⟨i,hi⟩:=(hL s hs).1 lQ;rw[B4 lQ];exact Od aaU afW hD hi
 .rw[B5 lQ];have dq:=(hL s hs).2 lQ;unfold dG at hD;have avi:∀e,(Instr.checkKey e 10000 9 (.string (bs s))).run prog w=.ok () w:=λe=>run_checkKey afW e 9999 _;simp[Instr.lookup,B7 aaU,JJ hD,avi,run_findKey afW,dq,aoH]
def mS(ns:Y9):List (List Nat):=ns.flatMap λn=>lh (eN.idxOf n)
def PK(A:Y9):List Nat:=(List.range 12).filter λk=>decide (eN.getD k []∈A)
def mF(P:T1)(ks:Yz):List Nat:=QC (ks.map (tL P))
def O0(a b:Yz):bs a++bs b=bs (a++b):=by
 apply ByteArray.ext
 simp[bs]
def acn{c:Nat}{w:YC}(hx:an S w (.sl (strs ns)) (sV a ns.length c))(bL:∀s∈ns,bW s)(hn:ns.length<=60)(Q:VW)(auL:40 < ns.length->∀w',Kept aK w w'->Q (.returned (.tuple #[nS,iV 3])) w')(eK:ns.length<=40->(∃s∈ns,s∉eN)->∀w',Kept aK w w'->Q (.returned (.tuple #[nS,iV 4])) w')(afX:ns.length<=40->(∀s∈ns,s∈eN)->∀w1,Kept aK w w1->Calls prog 34 #[(mF prog (PK (mS ns)))] w1 λe w'=>∃a n c,e=.returned (.tuple #[sV a n c,.agg #[iV 0,iV 0],oZ])/\Kept aK w1 w'/\∀w2,Kept aK w' w2->Q (.returned (.tuple #[sV a n c,oZ])) w2):Calls prog 10 #[sV a ns.length c] w Q:=by
 obtain⟨KN,hKN⟩:∃m,ns.length=m:=⟨_,rfl⟩
 rw[hKN] at hx hn auL eK afX|-;by_cases h4:40 < KN
 .have al2:=ah (auL h4);have h41:(40:Int) < (KN:Int):=ab;go_enter func10,ntmps10;go_wp2_with fail;exact al2 _ (Kept.refl _ _)
 .have al3:=ah (eK ab);have afY:=ah (afX ab);have h41:¬(40:Int) < (KN:Int):=ab;have hmk:=@run_makeMap prog;revert hx hKN;refine ct ?_;intro hx hKN;go_enter func10,ntmps10;go_wp2_with fail;have hM0:Hid (MB (w.alloc (.map #[] 0)) w.heap.size []):=MB.new w;go_loopg [23] KN (λgg s23 wr=>∃j:Nat,s23=iV j/\j+gg=KN/\Hid (∀s∈ns.take j,s∈eN)/\Hid (∃A,MB wr w.heap.size A/\∀s,s∈A↔s∈mS (ns.take j))/\Hid (Kept aK w wr))
  case atStart=>exact⟨0,rfl,by omega,λs h=>(by simp at h),⟨[],hM0,λs=>by simp[mS]⟩,(Kept.refl aK w).alloc _⟩
  case round=>
   obtain⟨j,rfl,hj,mu,hA,hK⟩:=hrel;obtain⟨GO,hGO⟩:∃x,Hid (x=gk):=⟨_,ah rfl⟩
   by_cases bQ:j < KN
   .obtain⟨s,hs⟩:∃s,ns[j]?=some s:=⟨_,ck kQ⟩
    have hsS:=bL s (cm hs);obtain⟨g',off,eg,-,cs,hR,hc⟩:=hx.out.elem (k:=j) (row:=[.str s]) Lo;obtain⟨c0,Ap,rfl,v0,r0⟩:=hR.aG
    cases r0.jO;cases v0.bq;subst eg;have q0:=hK.aq (hc 0 _ rfl) (λe=>e);revert hs q0;refine Gh ?_;intro q0 h1 xY oL hs etk;go_wp2_with fail;refine(Ts hsS _).mono ?_;rintro e w1 (⟨k,a1,c1,hk,Md,rfl,hv,K1⟩|⟨al4,rfl,K1⟩)
    .obtain⟨A,hMA,hAw⟩:=hA.out;have O1:=aj2 hk (bs (tL prog k)) (hv.kept ((Kept.refl aK w1).alloc (cO #[.string (bs (eN.getD k [])),.slice a1 (zO.getD k []).length c1,.string (bs (tL prog k))] 64)) (λ_ _ _ e=>e));obtain⟨ML,Ab⟩:∃m,(zO.getD k []).length=m:=⟨_,rfl⟩
     rw[<-Md] at O1;rw[Ab] at O1|-;revert Md O1 Ab;refine jk ?_;intro Md O1 Ab;have hM1:=ah (hMA.kept K1 (λe=>e));have Io:=ah (hK.trans' K1);have hwK:=ah K1.size;replace hAw:=ah hAw;go_wp2_with fail;refine O1.mono ?_;rintro e w2 ⟨a2,c2,rfl,jo,K2⟩;obtain⟨KA,kB⟩:∃m,(lh k).length=m:=⟨_,rfl⟩
     have aj3:KA<=12:=by rw[<-kB];exact Qs _ _
     rw[kB] at jo|-;have hM2:=ah ((hM1.kept ((Kept.refl aK w1).alloc (cO #[.string (bs s),sV a1 ML c1,.string (bs (tL prog k))] 64)) (λe=>e)).kept K2 (λe=>e));have gu:=ah ((Io.alloc (cO #[.string (bs s),sV a1 ML c1,.string (bs (tL prog k))] 64)).trans' K2);have hbl:=ah (hM2.lt);have jy:Hid (w.heap.size < (w1.alloc (cO #[.string (bs s),sV a1 ML c1,.string (bs (tL prog k))] 64)).heap.size):=ah (by have:=hM1.out.lt;simp;omega);have aoI:Hid (∀s∈lh k,bW s):=ah λs hs=>BG s (Uc.1 hs).1;revert jo kB;refine ct ?_;intro jo kB;go_wp2_with fail;go_loopg [37] KA (λgi s37 wi=>∃i:Nat,s37=iV i/\i+gi=KA/\Hid (∃A,MB wi w.heap.size A/\∀s,s∈A↔s∈mS (ns.take j)∨s∈(lh k).take i)/\Hid (Kept (λb=>b=w.heap.size) w2 wi))
     case atStart=>exact⟨0,rfl,by omega,⟨A,hM2,λs=>by simp[hAw.out]⟩,Kept.refl _ _⟩
     case round=>
      obtain⟨i,rfl,hi,hAi,zF⟩:=hrel;by_cases hli:i < KA
      .obtain⟨z,hz⟩:∃z,(lh k)[i]?=some z:=⟨_,ck (by have:=kB.out;omega)⟩
       have hzS:=aoI z (cm hz);obtain⟨g3,aoJ,eg,Bk,Sx,qp,NF⟩:=jo.out.elem (k:=i) (row:=[.str z]) Ho;obtain⟨c3,Sx,rfl,v3,r3⟩:=qp.aG
       cases r3.jO;cases v3.bq;subst eg;have q3:=zF.aq (NF 0 _ rfl) (λe=>by have h1:=jy.out;have h2:=qD h1 Bk;have e':g3=w.heap.size:=e;omega);have h3:([T.str z]:Row).length=1:=rfl;rw[h3,fS,B6] at q3;obtain⟨Ai,hMi,hAi⟩:=hAi.out;obtain⟨w5,hr5,hM5,hK5⟩:=hMi.put hzS;have ij:(i:Int) < (KA:Int):=ab;have I6:(0:Int)<=(i:Int):=ab;have etz:(lh k).take (i+1)=(lh k).take i++[z]:=HS;revert hz hAi hM5 hK5 etz;refine nx ?_;intro hz hAi hM5 hK5 etz;go_wp2_with fail;go_roundg (gk - 1)
       case measure=>omega
       case rel=>exact⟨i+1,by simp,by omega,⟨_,hM5,λt=>by rw[etz.out,cZ,hAi.out,oU,JH];constructor<;>(intro h;rcases h with h|h|h<;>simp[h])⟩,zF.trans' hK5⟩
      .have hik:i=KA:=by omega
       subst hik;have ij:¬(i:Int) < (i:Int):=ab;obtain⟨Ai,hMi,hAi⟩:=hAi.out;have aoK:(lh k).take i=lh k:=oh (by rw[kB.out];exact aM _);rw[aoK] at hAi;have avg:eN.idxOf s=k:=by have:=Tr hk (nm:=s) Md.symm;have lQ:s∈eN:=GZ;unfold ixZ at this;rw[aI lQ] at this;omega
       have lQ:s∈eN:=GZ;revert hMi hAi avg lQ;refine jU ?_;intro hMi hAi avg lQ;go_wp2_with fail;go_roundg (GO - 1)
       case measure=>have:=hGO.out;omega
       case rel=>
        refine⟨j+1,by simp,by have:=hGO.out;omega,λt ht=>?_,⟨Ai,hMi,λt=>?_⟩,gu.trans zF λb hb e=>by omega⟩
        .exact J3
        .rw[hAi.out,etk.out];unfold mS;rw[Qt,oU,rz,aus,gp,avg.out]
    .replace K1:=ah K1;go_wp2_with fail;exact al3 ⟨s,cm hs,al4⟩ _ ((hK.trans' K1).alloc _)
   .have hjk:j=KN:=by omega
    have QM:ns.take j=ns:=oh kQ;rw[QM] at mu hA;obtain⟨A,hMA,hAw⟩:=hA.out;have xY:¬(j:Int) < (KN:Int):=ab;have UJ:Hid (PK A=PK (mS ns)):=Lib.hid (by unfold PK;congr 1;funext k;rw[decide_eq_decide];exact hAw _);have O2:=ah (afY mu.out);rw[<-UJ.out] at O2;replace hMA:=ah hMA;go_wp2_with fail;refine(afN _).mono ?_;rintro e w1 ⟨gl,rfl,al5,K1⟩;have hM1:=ah (hMA.kept K1 (λe=>e));have Io:=ah (hK.trans' K1);replace al5:=ah al5;go_wp2_with fail;go_loopg [11,47] 12 (λgi s11 s47 wi=>∃i:Nat,s47=iV i/\i+gi=12/\Hid (s11=.string (bs (mF prog ((List.range i).filter λk=>decide (eN.getD k []∈A)))))/\Hid (Kept aK w1 wi))
    case atStart=>exact⟨0,rfl,rfl,rfl,Kept.refl _ _⟩
    case round=>
     obtain⟨i,rfl,hi,L7,zF⟩:=hrel;obtain⟨SR,V3⟩:∃s,mF prog ((List.range i).filter λk=>decide (eN.getD k []∈A))=s:=⟨_,rfl⟩
     have aiW:SR.length<=12*4001:=by rw[<-V3];unfold mF QC;exact Nb
     rw[V3] at L7;have afZ:=L7.out;subst afZ;have Uv:(bs SR).size<=48012:=by rw[dp];exact aiW
     by_cases hli:i < 12
     .obtain⟨_,a1,c1,v1,-,q0,q1,q2⟩:=NZ al5.out hli;replace q0:=zF.aq q0 (λe=>e);replace q1:=zF.aq q1 (λe=>e);replace q2:=zF.aq q2 (λe=>e);have hni:=ID hli;obtain⟨ML,Ab⟩:∃m,(zO.getD i []).length=m:=⟨_,rfl⟩
      obtain⟨NM,BS⟩:∃m,eN.getD i []=m:=⟨_,rfl⟩
      rw[Ab] at q1;rw[BS] at q0 hni;have pD:(bs (tL prog i)).size<=4000:=HT;have sY:(mz:YR).size=1:=rfl;have auI:=((hM1.kept zF (λe=>e)).kept ((Kept.refl aK wr).alloc (cO #[NM,sV a1 ML c1,(tL prog i)] 64)) (λe=>e)).has hni;have ij:(i:Int) < 12:=ab;have I6:(0:Int)<=(i:Int):=ab;have nn:mF prog ((List.range (i+1)).filter λk=>decide (eN.getD k []∈A))=if NM∈A then SR++(tL prog i++[10]) else SR:=by rw[List.range_succ,List.filter_append,<-V3,<-BS];exact C4
      revert V3 Ab BS nn;refine jU ?_;intro V3 Ab BS nn;by_cases lQ:NM∈A
      .rw[B4 lQ] at auI;go_wp2_with fail;go_roundg (gk - 1)
       case measure=>omega
       case rel=>exact⟨i+1,by simp,by omega,by rw[nn.out,aI lQ];show _=_;rw[show(mz:YR)=bs [10] from rfl,O0,O0],zF.alloc _⟩
      .rw[B5 lQ] at auI;go_wp2_with fail;go_roundg (gk - 1)
       case measure=>omega
       case rel=>exact⟨i+1,by simp,by omega,by rw[nn.out,aE lQ];rfl,zF.alloc _⟩
     .have al6:i=12:=by omega
      subst al6;have L5:PK A=(List.range 12).filter λk=>decide (eN.getD k []∈A):=rfl;rw[<-L5] at V3;rw[V3] at O2;replace V3:=ah V3;go_wp2_with fail;refine(O2 _ (Io.trans' zF)).mono ?_;rintro e w2 ⟨a3,n3,c3,rfl,K2,hQ⟩;replace hQ:=ah hQ;go_wp2_with fail;exact hQ _ ((Kept.refl aK w2).alloc _)
def af0(t:Yz):(bs t).toList=t.map UInt8.ofNat:=by rw[dW,Tu]
def oS{b:YR}(h:b=(aiP prog).getD k ⟨#[]⟩):b=bs (tL prog k):=by unfold tL;rw[IC,h]
def Jy(hk:k < 12)(w:YC):Calls prog 30 #[(eN.getD k [])] w λe w'=>e=.returned (.string (bs (tL prog k)))/\w'=w:=by
 match k,hk with
 |0,_=>show Calls prog 30 #[.string fI] w _;go_enter func30,ntmps30;go_wp2;go_ret;refine⟨gq (λb=>Ending.returned (.string b)) (oS (k:=0) ?_),rfl⟩;kernel_rfl
 |1,_=>show Calls prog 30 #[.string gG] w _;go_enter func30,ntmps30;go_wp2;go_ret;refine⟨gq (λb=>Ending.returned (.string b)) (oS (k:=1) ?_),rfl⟩;kernel_rfl
 |2,_=>show Calls prog 30 #[.string l8] w _;go_enter func30,ntmps30;go_wp2;go_ret;refine⟨gq (λb=>Ending.returned (.string b)) (oS (k:=2) ?_),rfl⟩;kernel_rfl
 |3,_=>show Calls prog 30 #[.string tA] w _;go_enter func30,ntmps30;go_wp2;go_ret;refine⟨gq (λb=>Ending.returned (.string b)) (oS (k:=3) ?_),rfl⟩;kernel_rfl
 |4,_=>show Calls prog 30 #[.string BX] w _;go_enter func30,ntmps30;go_wp2;go_ret;refine⟨gq (λb=>Ending.returned (.string b)) (oS (k:=4) ?_),rfl⟩;kernel_rfl
 |5,_=>show Calls prog 30 #[.string BY] w _;go_enter func30,ntmps30;go_wp2;go_ret;refine⟨gq (λb=>Ending.returned (.string b)) (oS (k:=5) ?_),rfl⟩;kernel_rfl
 |6,_=>show Calls prog 30 #[.string qz] w _;go_enter func30,ntmps30;go_wp2;go_ret;refine⟨gq (λb=>Ending.returned (.string b)) (oS (k:=6) ?_),rfl⟩;kernel_rfl
 |7,_=>show Calls prog 30 #[.string od] w _;go_enter func30,ntmps30;go_wp2;go_ret;refine⟨gq (λb=>Ending.returned (.string b)) (oS (k:=7) ?_),rfl⟩;kernel_rfl
 |8,_=>show Calls prog 30 #[.string IV] w _;go_enter func30,ntmps30;go_wp2;go_ret;refine⟨gq (λb=>Ending.returned (.string b)) (oS (k:=8) ?_),rfl⟩;kernel_rfl
 |9,_=>show Calls prog 30 #[.string aX] w _;go_enter func30,ntmps30;go_wp2;go_ret;refine⟨gq (λb=>Ending.returned (.string b)) (oS (k:=9) ?_),rfl⟩;kernel_rfl
 |10,_=>show Calls prog 30 #[.string oe] w _;go_enter func30,ntmps30;go_wp2;go_ret;refine⟨gq (λb=>Ending.returned (.string b)) (oS (k:=10) ?_),rfl⟩;kernel_rfl
 |11,_=>show Calls prog 30 #[.string og] w _;go_enter func30,ntmps30;go_wp2;go_ret;refine⟨gq (λb=>Ending.returned (.string b)) (oS (k:=11) ?_),rfl⟩;kernel_rfl
def V4(hm:bW nm)(eK:nm∉eN)(w:YC):Calls prog 30 #[nm] w λe w'=>e=.returned (.string ⟨#[]⟩)/\w'=w:=by
 have cR:∀t,t∈eN->((bs nm).toList==t.map UInt8.ofNat)=false:=λt ht=>by
  rw[<-af0 t,cH hm (BG t ht)];exact gH.2 λe=>eK (e▸ht)
 have h0:((bs nm).toList==[76,73,78,75])=false:=cR "LINK" aj;have h1:((bs nm).toList==[73,78,84,83])=false:=cR "INTS" aj;have h2:((bs nm).toList==[83,79,82,84,69,68])=false:=cR "SORTED" aj;have h3:((bs nm).toList==[78,79,68,69])=false:=cR "NODE" aj;have h4:((bs nm).toList==[83,84,65,67,75])=false:=cR "STACK" aj;have h5:((bs nm).toList==[81,85,69,85,69])=false:=cR "QUEUE" aj;have h6:((bs nm).toList==[69,78,84,82,89])=false:=cR "ENTRY" aj;have h7:((bs nm).toList==[84,65,66,76,69])=false:=cR "TABLE" aj;have h8:((bs nm).toList==[83,69,84])=false:=cR "SET" aj;have h9:((bs nm).toList==[67,79,85,78,84,69,82])=false:=cR "COUNTER" aj;have sG:((bs nm).toList==[82,65,78,71,69])=false:=cR "RANGE" aj;have Oq:((bs nm).toList==[65,82,73,84,72])=false:=cR "ARITH" aj;go_enter func30,ntmps30;exact cQ
def aj4(hk:k < 12):((bs (tL prog k)).toList==([]:List UInt8))=false:=by
 have h:((List.range 12).all λk=>!(tL prog k).isEmpty)=true:=bh;have:=dV.1 h k (BZ.2 hk);rw[af0]
 cases e:tL prog k with
 |nil=>rw[e] at this;cases this
 |cons=>rfl
def af1(hk:k < 12)(w:YC):Calls prog 32 #[(eN.getD k [])] w λe w'=>∃a c,e=.returned (.slice a (lh k).length c)/\an w w' (.sl (strs (lh k))) (.slice a (lh k).length c)/\Kept aK w w':=by
 match k,hk with
 |0,_=>show Calls prog 32 #[.string fI] w _;go_enter func32,ntmps32;go_wp2;go_ret;exact⟨_,_,rfl,dS (S:=λb=>w.heap.size<=b) (b:=w) [tx "LINK"] cY (aM _) aj,(Kept.refl aK w).alloc _⟩
 |1,_=>show Calls prog 32 #[.string gG] w _;go_enter func32,ntmps32;go_wp2;go_ret;exact⟨_,_,rfl,dS (S:=λb=>w.heap.size<=b) (b:=w) [tx "LINK",tx "INTS"] cY (aM _) aj,(Kept.refl aK w).alloc _⟩
 |2,_=>show Calls prog 32 #[.string l8] w _;go_enter func32,ntmps32;go_wp2;go_ret;exact⟨_,_,rfl,dS (S:=λb=>w.heap.size<=b) (b:=w) [tx "LINK",tx "INTS",tx "SORTED"] cY (aM _) aj,(Kept.refl aK w).alloc _⟩
 |3,_=>show Calls prog 32 #[.string tA] w _;go_enter func32,ntmps32;go_wp2;go_ret;exact⟨_,_,rfl,dS (S:=λb=>w.heap.size<=b) (b:=w) [tx "NODE"] cY (aM _) aj,(Kept.refl aK w).alloc _⟩
 |4,_=>show Calls prog 32 #[.string BX] w _;go_enter func32,ntmps32;go_wp2;go_ret;exact⟨_,_,rfl,dS (S:=λb=>w.heap.size<=b) (b:=w) [tx "NODE",tx "STACK"] cY (aM _) aj,(Kept.refl aK w).alloc _⟩
 |5,_=>show Calls prog 32 #[.string BY] w _;go_enter func32,ntmps32;go_wp2;go_ret;exact⟨_,_,rfl,dS (S:=λb=>w.heap.size<=b) (b:=w) [tx "LINK",tx "QUEUE"] cY (aM _) aj,(Kept.refl aK w).alloc _⟩
 |6,_=>show Calls prog 32 #[.string qz] w _;go_enter func32,ntmps32;go_wp2;go_ret;exact⟨_,_,rfl,dS (S:=λb=>w.heap.size<=b) (b:=w) [tx "ENTRY"] cY (aM _) aj,(Kept.refl aK w).alloc _⟩
 |7,_=>show Calls prog 32 #[.string od] w _;go_enter func32,ntmps32;go_wp2;go_ret;exact⟨_,_,rfl,dS (S:=λb=>w.heap.size<=b) (b:=w) [tx "ENTRY",tx "TABLE"] cY (aM _) aj,(Kept.refl aK w).alloc _⟩
 |8,_=>show Calls prog 32 #[.string IV] w _;go_enter func32,ntmps32;go_wp2;go_ret;exact⟨_,_,rfl,dS (S:=λb=>w.heap.size<=b) (b:=w) [tx "LINK",tx "INTS",tx "SET"] cY (aM _) aj,(Kept.refl aK w).alloc _⟩
 |9,_=>show Calls prog 32 #[.string aX] w _;go_enter func32,ntmps32;go_wp2;go_ret;exact⟨_,_,rfl,dS (S:=λb=>w.heap.size<=b) (b:=w) [tx "COUNTER"] cY (aM _) aj,(Kept.refl aK w).alloc _⟩
 |10,_=>show Calls prog 32 #[.string oe] w _;go_enter func32,ntmps32;go_wp2;go_ret;exact⟨_,_,rfl,dS (S:=λb=>w.heap.size<=b) (b:=w) [tx "RANGE"] cY (aM _) aj,(Kept.refl aK w).alloc _⟩
 |11,_=>show Calls prog 32 #[.string og] w _;go_enter func32,ntmps32;go_wp2;go_ret;exact⟨_,_,rfl,dS (S:=λb=>w.heap.size<=b) (b:=w) [tx "ARITH"] cY (aM _) aj,(Kept.refl aK w).alloc _⟩
def V5(w:YC):Calls prog 14 #[] w λe w'=>∃a c,e=.returned (sV a 12 c)/\an w w' (.sl (strs eN)) (sV a 12 c)/\Kept aK w w':=by go_enter func14,ntmps14;go_wp2;go_ret;exact⟨_,_,rfl,dS (S:=λb=>w.heap.size<=b) (b:=w) eN cY (aM _) aj,(Kept.refl aK w).alloc _⟩
def af2(nm:Yz)(w:YC)(e:TP)(w':YC):Prop:=
 (∃(k:Nat) (a:YS) (c:Nat),k < 12/\nm=eN.getD k []/\e=.returned (.agg #[.slice a (lh k).length c,oZ])/\an w w' (.sl (strs (lh k))) (.slice a (lh k).length c)/\Kept aK w w')∨
 (nm∉eN/\e=.returned (.agg #[nS,iV 4])/\Kept aK w w')
def aaV(hm:bW nm)(w:YC):Calls prog 9 #[nm] w (af2 nm w):=by
 refine atK ?_;intro hK hb;by_cases lQ:nm∈eN
 .obtain⟨k,hk,Xv⟩:∃k,k < 12/\eN.getD k []=nm:=by exact atC
  subst Xv;have h1:=aj4 hk;have hc:=ah (λw=>Jy hk w);have hn:=ah (λw=>af1 hk w);obtain⟨NM,BS⟩:∃m,eN.getD k []=m:=⟨_,rfl⟩
  rw[BS] at hc hn|-;replace BS:=ah BS;go_enter func9,ntmps9;go_wp2_with fail;refine(hc _).mono ?_;rintro e w1 ⟨rfl,rfl⟩;go_wp2_with fail;refine(hn _).mono ?_;rintro e w2 ⟨a,c,rfl,hv,K2⟩;have jy:=ah (aJ hb.out K2);have gu:=ah (hK.trans' K2);obtain⟨KA,kB⟩:∃m,(lh k).length=m:=⟨_,rfl⟩
  rw[kB] at hv|-;revert hv kB;refine ct ?_;intro hv kB;go_wp2_with (first|refine QW ?_|refine str jy ?_);refine ou (lz _ _ _ #[sV a KA c,oZ] _ _ jy) ?_;have WD:=fH w2 w.heap.size #[sV a KA c,oZ];refine .inl ⟨k,a,c,hk,BS.symm,by rw[kB.out],?_,gu.trans WD λb hb e=>by omega⟩;exact atl
 .have hc:=ah (λw=>V4 hm lQ w);go_enter func9,ntmps9;go_wp2_with fail;refine(hc _).mono ?_;rintro e w1 ⟨rfl,rfl⟩;go_wp2_with (first|refine QW ?_|refine str hb ?_);refine ou (lz _ _ _ #[nS,iV 4] _ _ hb) ?_;exact .inr ⟨lQ,rfl,hK.trans (fH _ _ _) λb hb e=>by omega⟩
def al8{w:YC}{c:Nat}(hx:an S w (.sl (strs l)) (sV a l.length c))(hl:∀s∈l,bW s)(hn:l.length<=100000){s:Yz}(hs:bW s):Calls prog 35 #[sV a l.length c,.string (bs s)] w λe w'=>e=.returned (.bool (decide (s∈l)))/\Kept aK w w':=by
 obtain⟨KL,sc⟩:∃m,l.length=m:=⟨_,rfl⟩
 rw[sc] at hx hn|-;revert hx sc;refine ct ?_;intro hx sc;go_enter func35,ntmps35;go_wp2_with fail;go_loopg [5] KL (λgg s5 wr=>∃k:Nat,s5=iV k/\k+gg=KL/\Hid (s∉l.take k)/\Hid (Kept aK w wr))
 case atStart=>exact⟨0,rfl,by omega,λh=>(by simp at h),Kept.refl _ _⟩
 case round=>
  obtain⟨k,rfl,hk,hnk,hK⟩:=hrel;by_cases bQ:k < KL
  .obtain⟨z,hz⟩:∃z,l[k]?=some z:=⟨_,ck (by have:=sc.out;omega)⟩
   have hzS:=hl z (cm hz);obtain⟨g3,aoJ,eg,Bk,Sx,qp,NF⟩:=hx.out.elem (k:=k) (row:=[.str z]) Ho;obtain⟨c3,Sx,rfl,v3,r3⟩:=qp.aG
   cases r3.jO;cases v3.bq;subst eg;have q3:=hK.aq (NF 0 _ rfl) (λe=>e);have h3:([T.str z]:Row).length=1:=rfl;rw[h3,fS,B6] at q3;have ij:(k:Int) < (KL:Int):=ab;have I6:(0:Int)<=(k:Int):=ab;have heq:=cH hzS hs;have etz:l.take (k+1)=l.take k++[z]:=HS;by_cases he:z=s
   .have hee:(z==s)=true:=by simpa using he
    rw[hee] at heq;have lQ:s∈l:=he▸cm hz;revert hz etz;refine ct ?_;intro hz etz;subst he;replace lQ:=ah lQ;go_wp2_with fail;go_ret;exact⟨by rw[B4 lQ.out];rfl,hK⟩
   .have hee:(z==s)=false:=by simpa using he
    rw[hee] at heq;revert hz etz;refine ct ?_;intro hz etz;go_wp2_with fail;go_roundg (gk - 1)
    case measure=>omega
    case rel=>exact⟨k+1,by simp,by omega,by rw[etz.out];exact λh=>(oU.1 h).elim hnk λh=>he (JH.1 h).symm,hK⟩
  .have hkK:k=KL:=by omega
   have eK:s∉l:=by have h:=hnk.out;rwa[oh (by have:=sc.out;omega)] at h
   have ij:¬(k:Int) < (KL:Int):=ab;replace eK:=ah eK;go_wp2_with fail;go_ret;exact⟨by rw[B5 eK.out];rfl,hK⟩
def OS.apps{l2:Y9}{ops:Ws}{a:Act}{Q:VN}(hg:o.guard=none)(s x:Rj)(o7:o.op=Op.call {callee:=Callee.builtin Builtin.append,args:=#[s,x],argTypes:=#[22,22]})
  (h:OS W V v l) (hs:a.eval s=v) {ad:YS} {m c:Nat} (hx:a.eval x=sV ad m c) (hW:W.heap.size<=V.heap.size) (hl:l.length+l2.length<=1000000)
  (hv:an (λb=>W.heap.size<=b/\v.ownBlock≠some b) V (.sl (strs l2)) (sV ad m c))
  (hK:∀v' V',OS W V' v' (l++l2)->Kept (λj=>W.heap.size<=j) V V'->wpList prog ops Q rest (a.put o.dst v') V'):wpList prog ops Q (o::rest) a V:=by
 obtain⟨i,hi,hz,dM,dY⟩:=dN aoy;refine kZ (P:=prog) underlying22 hi hz dM dY rfl ab ab hg s x o7 hs hx h hW (by simpa[strs] using hl) (λrow hr=>?_) hv ?_
 .obtain⟨z,-,rfl⟩:=dO.1 hr;rfl
 .intro v' V' h1 h2 _;have e:strs l++strs l2=strs (l++l2):=bR;rw[e] at h1;exact hK v' V' h1 (h2.mono λb hb=>(OwnR.lt h b hb).1)
def af3:∀s∈mS ns,bW s:=λs hs=>by
 obtain⟨n,-,h⟩:=auV.1 hs;exact BG s (Uc.1 h).1
def aco(ns:Y9):(mS ns).length<=ns.length*12:=by
 induction ns with
 |nil=>simp[mS]
 |cons n ns ih=>unfold mS at*;rw[rz,j0,dC];have:(lh (eN.idxOf n)).length<=12:=Qs _ _;omega
def Ni(hk:k < 12)(Md:s=eN.getD k []):eN.idxOf s=k/\s∈eN:=by
 have:=Tr hk (nm:=s) Md.symm;have lQ:s∈eN:=by rw[Md,rA,ck (show k < eN.length from hk)];exact Ug _
 unfold ixZ at this;rw[aI lQ] at this;exact⟨by omega,lQ⟩
def aiX(hi:i<=12):(mF prog ((List.range i).filter λk=>decide (eN.getD k []∈A))).length<=12*4001:=by unfold mF QC;exact Nb
def af4:mF prog ((List.range (i+1)).filter λk=>decide (eN.getD k []∈A))=if eN.getD i []∈A then mF prog ((List.range i).filter λk=>decide (eN.getD k []∈A))++(tL prog i++[10]) else mF prog ((List.range i).filter λk=>decide (eN.getD k []∈A)):=by rw[List.range_succ,List.filter_append];exact C4
def aoL(x0 x1 x2 x3:YE)(w:YC):(Instr.field 44 (.agg #[x0,x1,x2,x3]) 0).run prog w=.ok x0 w:=by kernel_rfl
abbrev z36:Obj:=.cells #[nS,oZ] 36
def YI{c:Nat}{w:YC}(hx:an S w (.sl (strs ns)) (sV a ns.length c))(bL:∀s∈ns,bW s)(hn:ns.length<=60)(Q:VW)(auL:40 < ns.length->∀w',Kept aK w w'->Q (.returned (.agg #[nS,iV 3])) w')(eK:ns.length<=40->(∃s∈ns,s∉eN)->∀w',Kept aK w w'->Q (.returned (.agg #[nS,iV 4])) w')(afX:ns.length<=40->(∀s∈ns,s∈eN)->∀w1,Kept aK w w1->w.heap.size < w1.heap.size->Calls prog 16 #[(mF prog (PK (mS ns)))] w1 λe w'=>∃a n c,e=.returned (.agg #[sV a n c,oZ,oZ,oZ])/\Kept aK w1 w'/\∀w2,Kept (λb=>b=w.heap.size) w' w2->Q (.returned (.agg #[sV a n c,oZ])) w2):Calls prog 11 #[sV a ns.length c] w Q:=by
 obtain⟨KN,hKN⟩:∃m,ns.length=m:=⟨_,rfl⟩
 rw[hKN] at hx hn auL eK afX|-;have hb:Hid ((w.alloc z36).heap[w.heap.size]?=some z36):=ah ao;have j8:=ah ((Kept.refl aK w).alloc z36);by_cases h4:40 < KN
 .have al2:=ah (auL h4);have h41:(40:Int) < (KN:Int):=ab;go_enter func11,ntmps11;go_wp2_with (first|refine QW ?_|refine str hb ?_);refine ou (lz _ _ _ #[nS,iV 3] _ _ hb) ?_;exact al2 _ (j8.trans (fH _ _ _) λb hb e=>by omega)
 .have al3:=ah (eK ab);have afY:=ah (afX ab);have h41:¬(40:Int) < (KN:Int):=ab;revert hx hKN;refine ct ?_;intro hx hKN;go_enter func11,ntmps11;go_wp2_with fail;go_loopg [3,4] KN (λgg s3 s4 wr=>∃j:Nat,s4=iV j/\j+gg=KN/\Hid (∀s∈ns.take j,s∈eN)/\Hid (OS (w.alloc z36) wr s3 (mS (ns.take j)))/\Hid (Kept aK (w.alloc z36) wr))
  case atStart=>exact⟨0,rfl,by omega,λs h=>(by simp at h),OwnR.nil,Kept.refl _ _⟩
  case round=>
   obtain⟨j,rfl,hj,mu,hO,hK⟩:=hrel;obtain⟨GO,hGO⟩:∃x,Hid (x=gk):=⟨_,ah rfl⟩
   obtain⟨a0,c0',rfl⟩:=hO.out.form;obtain⟨WL,hWL⟩:∃l,mS (ns.take j)=l:=⟨_,rfl⟩
   have aqR:WL.length<=480:=by
    rw[<-hWL];refine cn (aco _) ?_;have:(ns.take j).length<=40:=by rw[sK];have:=hKN.out;omega
    omega
   rw[hWL] at hO;by_cases bQ:j < KN
   .obtain⟨s,hs⟩:∃s,ns[j]?=some s:=⟨_,ck kQ⟩
    have hsS:=bL s (cm hs);obtain⟨g',off,eg,-,cs,hR,hc⟩:=hx.out.elem (k:=j) (row:=[.str s]) Lo;obtain⟨c0,Ap,rfl,v0,r0⟩:=hR.aG
    cases r0.jO;cases v0.bq;subst eg;have q0:=(j8.trans' hK).aq (hc 0 _ rfl) (λe=>e);revert hs q0;refine Gh ?_;intro q0 h1 xY oL hs etk;rw[hWL];replace hWL:=ah hWL;go_wp2_with fail;refine(aaV hsS _).mono ?_;rintro e w1 (⟨k,a1,c1,hk,Md,rfl,hv,K1⟩|⟨al4,rfl,K1⟩)
    .have avg:=(Ni hk Md).1;have lQ:=(Ni hk Md).2;have Io:=ah (hK.trans' K1);have U8:=ah ((hO.no K1).no ((Kept.refl aK w1).alloc (cO #[.slice a1 (lh k).length c1,oZ] 30)));have LH:Hid (an (λb=>(w.alloc z36).heap.size<=b/\(Value.slice a0 WL.length c0').ownBlock≠some b) (w1.alloc (cO #[.slice a1 (lh k).length c1,oZ] 30)) (.sl (strs (lh k))) (.slice a1 (lh k).length c1)):=ah ((hv.kept ((Kept.refl aK w1).alloc (cO #[.slice a1 (lh k).length c1,oZ] 30)) (λ_ _ _ e=>e)).mono λb hb _=>⟨cn hK.size hb,λe=>by have:=(OwnR.lt hO b e).2;have avH:wr.heap.size<=b:=hb;omega⟩);have aj3:(lh k).length<=12:=Qs _ _;obtain⟨AL,hAL⟩:∃l,lh k=l:=⟨_,rfl⟩
     rw[hAL] at LH U8 aj3|-;have N7:=ah K1.size;have etw:mS (ns.take (j+1))=WL++AL:=by rw[etk.out,<-hWL.out,<-hAL];unfold mS;rw[Qt,rz,aus,gp,avg]
     revert hAL etw;refine ct ?_;intro hAL etw;go_wp2_with (at_builtin;refine OS.apps rfl (.tmp 31) (.tmp 33) rfl U8 rfl rfl (by have:=Io.size;simp at this|-;omega) ab LH ?_;intro v4 w4 T5 yu;obtain⟨a5,c5,rfl⟩:=T5.form;obtain⟨K5,hK5⟩:∃m,(WL++AL).length=m:=⟨_,rfl⟩;rw[hK5] at T5|-;replace hK5:=ah hK5);go_roundg (GO - 1)
     case measure=>have:=hGO.out;omega
     case rel=>refine⟨j+1,by simp,by have:=hGO.out;omega,λt ht=>?_,by rw[etw.out];exact T5,(Io.alloc _).trans yu λb hb e=>by omega⟩;exact J3
    .have lL:=ah (aJ (aJ (aJ hb hK) K1) ((Kept.refl aK w1).alloc (cO #[nS,iV 4] 30)));have Io:=ah (((j8.trans' hK).trans' K1).alloc (cO #[nS,iV 4] 30));go_wp2_with (first|refine QW ?_|refine str lL ?_);refine ou (lz _ _ _ #[nS,iV 4] _ _ lL) ?_;exact al3 ⟨s,cm hs,al4⟩ _ (Io.trans (fH _ _ _) λb hb e=>by omega)
   .have hjk:j=KN:=by omega
    have QM:ns.take j=ns:=oh kQ;rw[QM] at mu hWL;have xY:¬(j:Int) < (KN:Int):=ab;have O2:=ah (afY mu.out);subst hWL;obtain⟨A,hAe⟩:∃A,mS ns=A:=⟨_,rfl⟩
    have al9:∀s∈A,bW s:=hAe▸af3;rw[hAe] at O2 hO aqR;have ama:mS (ns.take j)=A:=by rw[QM];exact hAe
    rw[ama];obtain⟨NA,hNA⟩:∃m,A.length=m:=⟨_,rfl⟩
    have aoM:=ah (fun(V:YC) (hk:Kept aK wr V) (s:Yz) (hs:bW s)=>al8 (hO.cell.kept hk (λ_ _ _ e=>e)) al9 ab hs);rw[hNA] at aoM|-;revert hAe al9 ama hNA;refine jU ?_;intro hAe al9 ama hNA;have hKr:=ah (j8.trans' hK.out);have lW:=ah (aJ hb.out hK.out);have hwr:Hid (w.heap.size < wr.heap.size):=ah (aQ.1 lW.out).1;go_wp2_with fail;refine(V5 _).mono ?_;rintro e w1 ⟨ga,gc,rfl,hv,K1⟩;revert hv K1;refine ct ?_;intro hv K1;go_wp2_with fail;go_loopg [6,8] 12 (λgi s6 s8 wi=>∃i:Nat,s8=iV i/\i+gi=12/\Hid (s6=.string (bs (mF prog ((List.range i).filter λk=>decide (eN.getD k []∈A)))))/\Hid (Kept aK w1 wi))
    case atStart=>exact⟨0,rfl,rfl,rfl,Kept.refl _ _⟩
    case round=>
     obtain⟨i,rfl,hi,L7,zF⟩:=hrel;have aiW:=aiX (A:=A) (show i<=12 by omega);have nn:=af4 (A:=A) (i:=i);obtain⟨SR,V3⟩:∃s,mF prog ((List.range i).filter λk=>decide (eN.getD k []∈A))=s:=⟨_,rfl⟩
     rw[V3] at L7 aiW nn;have afZ:=L7.out;subst afZ;have Uv:(bs SR).size<=48012:=by rw[dp];exact aiW
     by_cases hli:i < 12
     .obtain⟨NM,BS⟩:∃m,eN.getD i []=m:=⟨_,rfl⟩
      have hni:bW NM:=BS▸ID hli;obtain⟨g3,aoJ,eg,Bk,Sx,qp,NF⟩:=hv.out.elem (k:=i) (row:=[NM]) (by unfold strs;rw[List.getElem?_map,<-BS,List.getD_eq_getElem?_getD,List.getElem?_eq_getElem (show i < eN.length from hli)];rfl);obtain⟨c3,Sx,rfl,v3,r3⟩:=qp.aG
      cases r3.jO;cases v3.bq;subst eg;have q3:=zF.aq (NF 0 _ rfl) (λe=>e);have h3:([T.str NM]:Row).length=1:=rfl;rw[h3,fS,B6] at q3;have ij:(i:Int) < 12:=ab;have I6:(0:Int)<=(i:Int):=ab;have pD:(bs (tL prog i)).size<=4000:=HT;have sY:(mz:YR).size=1:=rfl;have hcd:=ah (aoM wr (K1.trans' zF) NM hni);have aoN:=ah (λw=>Jy hli w);rw[BS] at nn aoN;revert V3 nn BS;refine jk ?_;intro V3 nn BS;go_wp2_with fail;refine hcd.mono ?_;rintro e w2 ⟨rfl,K2⟩;have q4:=K2.aq q3 (λe=>e);have gu:=ah (zF.trans' K2);by_cases lQ:NM∈A
      .rw[B4 lQ];go_wp2_with (go_at_call 30;refine(aoN _).mono ?_;rintro e w3 ⟨rfl,rfl⟩);go_roundg (gk - 1)
       case measure=>omega
       case rel=>exact⟨i+1,by simp,by omega,by rw[nn.out,aI lQ];show _=_;rw[show(mz:YR)=bs [10] from rfl,O0,O0,I5],gu⟩
      .rw[B5 lQ];go_wp2_with fail;go_roundg (gk - 1)
       case measure=>omega
       case rel=>exact⟨i+1,by simp,by omega,by rw[nn.out,aE lQ];rfl,gu⟩
     .have al6:i=12:=by omega
      subst al6;have L5:PK A=(List.range 12).filter λk=>decide (eN.getD k []∈A):=rfl;rw[<-L5] at V3;rw[V3] at O2;replace V3:=ah V3;have Il:=ah (aJ (aJ lW K1) zF);go_wp2_with fail;refine(O2 _ ((hKr.trans' K1).trans' zF) (by have:=hwr.out;have:=K1.size;have:=zF.size;omega)).mono ?_;rintro e w2 ⟨a3,n3,c3,rfl,K2,hQ⟩;have jV:=ah (aJ Il.out K2);replace hQ:=ah hQ;have hf:=aoL (sV a3 n3 c3) (iV 0) (iV 0) (iV 0);go_wp2_with (first|refine QW ?_|refine str jV ?_);refine ou (lz _ _ _ #[sV a3 n3 c3,oZ] _ _ jV) ?_;exact hQ _ (fH _ _ _)
def avJ(h:0<=n/\n<=9223372036854775807):lZ (g+1) (ex 1 [] n []):=⟨_,_,_,_,rfl,.inl ⟨rfl,h⟩,by simp⟩
def avS(s:Yz):lZ (g+1) (ex 6 s 0 []):=⟨_,_,_,_,rfl,.inr (.inl ⟨rfl,by omega⟩),by simp⟩
def aun(nm ob:Yz){ag:Zg}(h:∀x∈ag,lZ (g+1) x):lZ (g+2) (ex 6 nm 1 (ex 6 ob 0 []::ag)):=⟨_,_,_,_,rfl,.inr (.inl ⟨rfl,λ_=>⟨_,_,rfl,by simp[axZ,ex]⟩⟩),λx hx=>(cZ.1 hx).elim (λe=>e▸avS ob) (h x)⟩
def ok_one{k:Int}(hk:k=8∨k=10)(nm:Yz){n:Int}{y:Row}(hy:axZ y)(h:lZ g y):lZ (g+1) (ex k nm n [y]):=⟨_,_,_,_,rfl,.inr (.inr ⟨hk,_,rfl,hy⟩),λx hx=>by rw[JH.1 hx];exact h⟩
def aws(h:avm n)(g:Nat):lZ (g+2) (aqY n):=by
 unfold avm at h;unfold aqY;split
 .exact ok_one (.inl rfl) _ (by simp[axZ,ex]) (avJ ab)
 .exact avJ ab
def auB{k:Int}{e:Row}{lb le:Zg}(hk:k=2∨k=3/\axZ e∨k=4/\le≠[]∨k=10)(he:lZ g e)(hb:∀x∈lb,jf g x)(hl:∀x∈le,jf g x):jf (g+1) (st k nm n [e] [] [] lb le):=⟨_,_,_,_,_,_,_,_,rfl,by simpa using hk,by simp,by simpa using he,hb,hl⟩
def axi(s:DS)(hs:s.ok)(g:Nat):jf (g+4) s.r:=by
 cases s with
 |push=>exact auB (.inl rfl) (aun _ _ (by simp[nmE,avS])) ai ai
 |mk=>exact auB (.inr (.inl ⟨rfl,by simp[axZ,ex]⟩)) (avS _) ai ai
 |amr p=>exact auB (.inr (.inr (.inl ⟨rfl,by simp⟩))) (ok_one (.inr rfl) _ (by simp[axZ,ex]) (aun _ _ ai)) (λx hx=>by rw[JH.1 hx];exact auB ai (aun _ _ ai) ai ai) (λx hx=>by rw[JH.1 hx];exact auB ai (avJ ab) ai ai)
 |call put ob nm ag=>refine auB (by cases put<;>simp) (aun _ _ λx hx=>?_) ai ai;obtain⟨a,ha,rfl⟩:=dO.1 hx;exact aws (hs.2.2.2 a ha) g
def bVa(f:Nat):Row->Bool
 |[.str _,.int k,.str nm,.sl args,.bool vd,.bool sp]=>Iw f [.int k,.str nm,.sl args,.bool vd,.bool sp]
 |_=>false
def agx{f:Nat}{r:Row}(h:bVa f r=true):VR f r:=by
 unfold bVa at h;split at h
 .exact⟨_,_,_,_,_,_,rfl,h⟩
 .cases h
def afJ(r:Row):Prop:=∃nm cr fn cl lo b,r=awa nm cr fn cl lo b/\aoq 30 60 lo b
def avK(n:Int)(f:Nat):bE (f+3) (aqY n) 1=amq n:=by
 unfold aqY amq;by_cases h:n < 0
 .rw[aI h,aI h];rfl
 .rw[aE h,aE h];rfl
def awt(ob nm:Yz)(ag:WV)(hl:ag.length<=2)(f:Nat):bE (f+10) (ex 6 nm 1 (ex 6 ob 0 []::ag.map aqY)) 1=ob::tx "."::nm::aqZ ag:=by
 match ag,hl with
 |[],_=>rfl
 |[a],_=>have h:=avK a (f+6);show _::_::_::(tx "("::bE (f+9) (aqY a) 1++[tx ")"])=_;rw[h];rfl
 |[a,b],_=>have h:=avK a (f+6);have h2:=avK b (f+6);show _::_::_::(tx "("::(bE (f+9) (aqY a) 1++tx ","::bE (f+9) (aqY b) 1)++[tx ")"])=_;rw[h,h2];simp[aqZ]
def awu(s:DS)(hs:s.ok)(f:Nat):oX (f+20) s.r++[tx ";"]=s.w:=by
 cases s with
 |push=>rfl
 |mk=>rfl
 |amr p=>rfl
 |call put ob nm ag=>
  have h:=awt ob nm ag hs.2.2.1 (f+9)
  cases put with
  |true=>show(tx "put"::bE (f+9+10) (ex 6 nm 1 (ex 6 ob 0 []::ag.map aqY)) 1)++[tx ";"]=_;rw[h];rfl
  |false=>show bE (f+9+10) (ex 6 nm 1 (ex 6 ob 0 []::ag.map aqY)) 1++[tx ";"]=_;rw[h];rfl
def awe(l:List DS)(hs:∀s∈l,s.ok)(f:Nat):adQ (f+20) (l.map DS.r)=avC l:=by
 induction l with
 |nil=>rfl
 |cons s l ih=>have h1:=awu s (hs s ai) f;have h2:=ih λx hx=>hs x (eC _ hx);unfold adQ avC at*;rw[lp,rz,rz,h1,h2]
def awv(cls:Yz)(hc:cls∈at8):tx "local"::mm 60 (asF cls)++[tx "do"]=(avp cls).drop 1:=by exact atm
def av0(cls:Yz)(hc:cls∈at8)(l:List DS)(hs:∀s∈l,s.ok):yP 60 (asN cls l)=au3 cls l:=by
 have h1:=awe l hs 40;have h2:=awv cls hc;have e:yP 60 (asN cls l)=[]++[tx "class",tx "MAIN"]++[]++[]++[tx "create",tx "make"]++([tx "feature",[123]]++[tx "ANY"]++[[125]]++([tx "make"]++[]++[]++([]++(tx "local"::mm 60 (asF cls))++[tx "do"]++adQ 60 (st 3 "c" 0 [ex 6 "make" 0 []] [] [] [] []::l.map DS.r)++[]++[]++[tx "end"]))++[])++[]++[tx "end"]:=af;rw[e];have e2:adQ 60 (st 3 "c" 0 [ex 6 "make" 0 []] [] [] [] []::l.map DS.r)=[tx "create",tx "c",tx ".",tx "make",tx ";"]++adQ 60 (l.map DS.r):=rfl;rw[e2,h1];have e3:au3 cls l=[tx "class",tx "MAIN",tx "create",tx "make",tx "feature",[123],tx "ANY",[125],tx "make"]++((avp cls).drop 1++([tx "create",tx "c",tx ".",tx "make",tx ";"]++(avC l++[tx "end",tx "end"]))):=by simp only[au3,hdW,avp,I5,qF,xR,List.drop_succ_cons,auT]
 rw[e3,<-h2];simp only[I5,qF,xR,gp]
def atZ{g:Row->Option Nat}{N:Nat}:∀{l:Zg} {n:Nat},n<=N->(∀x∈l,∃d,g x=some d/\d<=N)->∃m,fG g n l=some m/\m<=N
 |[],n,hn,_=>⟨n,rfl,hn⟩
 |x::l,n,hn,h=>by
  obtain⟨d,e,hd⟩:=h x ai;obtain⟨m,e2,hm⟩:=atZ (n:=max n d) (Nat.max_le.2 ⟨hn,hd⟩) λy hy=>h y (eC _ hy);exact⟨m,by unfold fG;rw[e];exact e2,hm⟩
def awP(n:Int)(f:Nat):∃d,Bz (f+3) (aqY n)=some d/\d<=2:=by
 unfold aqY;split
 .exact⟨2,rfl,aM _⟩
 .exact⟨1,rfl,by omega⟩
def avq(s:DS)(f:Nat):∃d,BO (f+20) s.r=some d/\d<=6:=by
 cases s with
 |push=>exact⟨_,rfl,by decide⟩
 |mk=>exact⟨_,rfl,by decide⟩
 |amr p=>exact⟨_,rfl,by decide⟩
 |call put ob nm ag=>
  obtain⟨m,e,hm⟩:=atZ (g:=Bz (f+18)) (N:=2) (n:=1) (l:=ag.map aqY) ab λx hx=>by
   obtain⟨a,-,rfl⟩:=dO.1 hx;exact awP a (f+15)
  have h1:fG (Bz (f+18)) 0 (ex 6 ob 0 []::ag.map aqY)=some m:=e;have h2:Bz (f+19) (ex 6 nm 1 (ex 6 ob 0 []::ag.map aqY))=some (m+1):=by show(fG (Bz (f+18)) 0 (ex 6 ob 0 []::ag.map aqY)).bind _=_;rw[h1];rfl
  refine⟨m+1+1,?_,by omega⟩;show((Bz (f+19) (ex 6 nm 1 (ex 6 ob 0 []::ag.map aqY))).bind λd=>some (max 0 d)).bind _=_;rw[h2];simp
def avL(cls:Yz)(hc:cls∈at8)(l:List DS)(hs:∀s∈l,s.ok):T0 60 (asN cls l)=true/\afJ (asN cls l)/\shK 60 (asN cls l)=true:=by
 obtain⟨m,e,hm⟩:=atZ (g:=BO 60) (N:=6) (n:=2) (l:=l.map DS.r) ab λx hx=>by
  obtain⟨a,-,rfl⟩:=dO.1 hx;exact avq a 40
 have h1:fG (BO 60) 0 (st 3 "c" 0 [ex 6 "make" 0 []] [] [] [] []::l.map DS.r)=some m:=e;have h3:(l.map DS.r).all (YN 60)=true:=by rw[List.all_map,dV];intro a ha';obtain⟨d,hd,-⟩:=avq a 40;show(BO 60 a.r).isSome=true;rw[hd];rfl
 have h4:(asF cls).all (λx=>bVa 60 x&&agh 60 x&&match avf 60 x with|some d=>decide (d<=3)|none=>false)=true:=by exact atm
 have h5:∀x∈asF cls,bVa 60 x=true/\agh 60 x=true/\∃d,avf 60 x=some d/\d<=6:=λx hx=>by
  have:=dV.1 h4 x hx;simp only[dD] at this;refine⟨this.1.1,this.1.2,?_⟩;have h:=this.2;split at h
  .rename_i d hd;exact⟨d,hd,by simp at h;omega⟩
  .cases h
 have h7:(asF cls).all (agh 60)=true:=dV.2 λx hx=>(h5 x hx).2.1;have hv:(asF cls).length<=2:=by unfold asF;split<;>simp
 obtain⟨m2,e2,cg⟩:=atZ (g:=avf 60) (N:=6) (n:=max (max (max (max (max 0 1) 0) 0) m) 0) (l:=asF cls) ab λx hx=>(h5 x hx).2.2;have hd:Ou 60 (asN cls l)=some m2:=by have q1:Ou 60 (asN cls l)=((fG (BO 60) 0 (st 3 "c" 0 [ex 6 "make" 0 []] [] [] [] []::l.map DS.r)).bind λd4=>(fG (BO 60) 0 []).bind λd5=>if([]:Zg).length+(asF cls).length<=1000 then fG (avf 60) (max (max (max (max (max 0 1) 0) 0) d4) d5) ([]++asF cls) else none).bind λm=>dFe 60 m []:=af;rw[q1,h1];have q2:([]:Zg).length+(asF cls).length<=1000:=aH;show((if([]:Zg).length+(asF cls).length<=1000 then fG (avf 60) (max (max (max (max (max 0 1) 0) 0) m) 0) (asF cls) else none):Option Nat).bind _=_;rw[aI q2,e2];rfl
 refine⟨?_,?_,?_⟩
 .unfold T0;rw[hd];show(Ip (asN cls l)&&decide (m2<=40))=true;rw[dD];exact⟨rfl,by simp;omega⟩
 .exact⟨_,_,_,_,_,_,rfl,⟨List.cons_ne_nil _ _,λx hx=>agx (h5 x hx).1,λx hx=>(cZ.1 hx).elim (λe=>e▸auB (.inr (.inl ⟨rfl,by simp[axZ,ex]⟩)) (avS _) ai ai) λhx=>by obtain⟨a,ha,rfl⟩:=dO.1 hx;exact axi a (hs a ha) 26⟩⟩
 .have:shK 60 (asN cls l)=(true&&true&&true&&((true&&true&&true&&(asF cls).all (agh 60)&&true&&true&&(true&&(l.map DS.r).all (YN 60))&&true)&&true)&&true):=by kernel_rfl
  rw[this,h7,h3];rfl
def czI:List (List Nat×Nat×Bool):=[(tx "count",0,true),(tx "push",1,false),(tx "extend",1,false),(tx "has",1,true),(tx "item",1,true),(tx "sum",0,true),(tx "remove",1,false),(tx "reverse",0,false),(tx "wipe",0,false)]
def czL:List (List Nat×List (List Nat×Nat×Bool)):=[(tx "INTS",czI),(tx "SORTED",czI),
 (tx "STACK",[(tx "count",0,true),(tx "push",1,false),(tx "pop",0,false),(tx "peek",0,true)]),
 (tx "QUEUE",[(tx "count",0,true),(tx "enter",1,false),(tx "leave",0,false),(tx "front",0,true)]),
 (tx "TABLE",[(tx "count",0,true),(tx "force",2,false),(tx "has",1,true),(tx "value_of",1,true),(tx "remove",1,false)]),
 (tx "SET",[(tx "add",1,false),(tx "drop",1,false),(tx "has",1,true),(tx "size",0,true)]),
 (tx "COUNTER",[(tx "count",0,true),(tx "up",0,false),(tx "add",1,false)]),
 (tx "RANGE",[(tx "low",0,true),(tx "high",0,true),(tx "span",2,false),(tx "contains",1,true),(tx "size",0,true),(tx "sum",0,true)]),
 (tx "ARITH",[(tx "gcd",2,true),(tx "power",2,true),(tx "fact",1,true),(tx "tries",1,true)])]
def cz(nm:Yz):List (List Nat×Nat×Bool):=(czL.lookup nm).getD []
def axO(l:List (List Nat×Nat×Bool)):List Row:=l.map λx=>[.str x.1,.int x.2.1,.bool x.2.2]
def awQ{T:UB}(l:List (List Nat×Nat×Bool))(h:V.heap[b]?=some (.cells (l.map λx=>[Value.string (bs x.1),.int .i64 x.2.1,.bool x.2.2]).flatten.toArray T (0,0)))(hS:S b)(hl:l.length<=1000):an S V (.sl (axO l)) (sV b l.length l.length):=by
 have e:(axO l).length=l.length:=by simp[axO]
 have:=aW (S:=S) (w:=V) (rows:=axO l) (css:=l.map λx=>[Value.string (bs x.1),.int .i64 x.2.1,.bool x.2.2]) (wd:=3) (cap:=l.length) h rfl (by
  unfold axO;clear h hl e;induction l with
  |nil=>exact .nil
  |cons x l ih=>exact .cons ⟨rfl,.cons (.str _) (.cons (.int _) (.cons (.bool _) .nil))⟩ ih) hS atW wj
 rwa[e] at this
def ayl(l:List (List Nat×Nat×Bool)):Array Value:=(l.map λx=>[Value.string (bs x.1),.int .i64 x.2.1,.bool x.2.2]).flatten.toArray
def avM(nm:Yz)(w:YC)(e:TP)(w':YC):Prop:=∃a,e=.returned (sV a (cz nm).length (cz nm).length)/\an (λb=>w.heap.size<=b) w' (.sl (axO (cz nm))) (sV a (cz nm).length (cz nm).length)/\Kept aK w w'
def w46(b:YR)(w:YC)(hb:bs nm=b:=by rfl)(hl:(cz nm).length<=1000:=by decide)
  (h:∀w,Calls prog 46 #[.string b] w λe w'=>e=.returned (sV w (cz nm).length (cz nm).length)/\w'=w.alloc (.cells (ayl (cz nm)) 101):=by
   intro w;go_enter func46,ntmps46;go_wp2;go_ret;exact⟨rfl,rfl⟩):Calls prog 46 #[nm] w (avM nm w):=by
 rw[hb];refine(h w).mono ?_;rintro e w' ⟨rfl,rfl⟩;exact⟨_,rfl,awQ (cz nm) cY (aM _) hl,(Kept.refl aK w).alloc _⟩
def at1(h:nm∉at8):cz nm=[]:=by
 have:∀l:List (List Nat×List (List Nat×Nat×Bool)),nm∉l.map (·.1)->l.lookup nm=none:=by
  intro l;induction l with
  |nil=>intro _;rfl
  |cons x l ih=>intro h;rw[lp,cZ,rV] at h;rw[at6,gH.2 h.1];exact ih h.2
 unfold cz;rw[this czL h];rfl
def auZ{t:Yz}(h:t∈at8):bW t:=(by decide:∀t∈at8,∀c∈t,c < 256) t h
def au4(hm:bW nm)(w:YC):Calls prog 46 #[nm] w (avM nm w):=by
 by_cases h:nm∈at8
 .simp only[at8,cZ,as5,as6] at h;rcases h with rfl|rfl|rfl|rfl|rfl|rfl|rfl|rfl|rfl
  .exact w46 gG w
  .exact w46 l8 w
  .exact w46 BX w
  .exact w46 BY w
  .exact w46 od w
  .exact w46 IV w
  .exact w46 aX w
  .exact w46 oe w
  .exact w46 og w
 .refine auh ?_;intro hn h0 h1 h2 h3 h4 h5 h6 h7 h8;unfold avM;rw[at1 h];clear hn;go_enter func46,ntmps46;go_wp2;go_ret;exact asR
def axs(nm:Yz):List (List Nat):=(cz nm).map (·.1)
def aw5(w:YC)(s:YR)(n:Int)(r:TG):Calls prog 47 #[.agg #[.string s,n,r]] w λe w'=>e=.returned (.string s)/\Kept aK w w':=by go_enter func47,ntmps47;exact asI
def au5{w:YC}{l:List (List Nat×Nat×Bool)}{c:Nat}(hx:an S w (.sl (axO l)) (sV a l.length c)){k:Nat}{x:List Nat×Nat×Bool}(hk:l[k]?=some x):∃g off,a=some ⟨g,off,none⟩/\w.cell? ⟨g,off+k*3,none⟩=some (.string (bs x.1))/\w.cell? ⟨g,off+k*3+1,none⟩=some (.int .i64 x.2.1)/\w.cell? ⟨g,off+k*3+2,none⟩=some (.bool x.2.2):=by obtain⟨g,off,eg,-,cs,hR,hc⟩:=hx.elem (k:=k) (row:=[.str x.1,.int x.2.1,.bool x.2.2]) (by unfold axO;rw[List.getElem?_map,hk];rfl);exact aub
def aw6{w:YC}{l:List (List Nat×Nat×Bool)}{c:Nat}(hn:l.length<=1000)(hx:an S w (.sl (axO l)) (sV a l.length c)):Calls prog 45 #[sV a l.length c,.func (.func 47) #[] #[]] w λe w'=>∃a c,e=.returned (sV a (l.map (·.1)).length c)/\an w w' (.sl (strs (l.map (·.1)))) (sV a (l.map (·.1)).length c)/\Kept aK w w':=by
 obtain⟨L,hL⟩:∃L,l.map (·.1)=L:=⟨_,rfl⟩
 have hl:l.length=L.length:=by rw[<-hL,Af]
 have asJ:=λk x h=>au5 (k:=k) (x:=x) hx h;rw[hL,hl];rw[hl] at hn;obtain⟨KL,sc⟩:∃m,L.length=m:=⟨_,rfl⟩
 rw[sc] at hn|-;clear hx;revert hL hl asJ sc;refine jU ?_;intro hL hl asJ sc;go_enter func45,ntmps45;go_wp2_with fail;go_loopg [5,10] KL (λgg s5 s10 wr=>∃k:Nat,s10=iV k/\k+gg=KL/\Hid (OS w wr s5 (L.take k))/\Hid (Kept aK w wr))
 case atStart=>exact⟨0,rfl,by omega,OwnR.nil,Kept.refl _ _⟩
 case round=>
  obtain⟨k,rfl,hk,hO,hK⟩:=hrel;obtain⟨a0,c0,rfl⟩:=hO.out.form;have Am:(L.take k).length=k:=by rw[sK,sc.out];exact MO ab
  rw[Am] at hO|-;by_cases bQ:k < KL
  .obtain⟨⟨s,n,r⟩,hz⟩:∃z,l[k]?=some z:=⟨_,ck (by rw[hl.out,sc.out];exact bQ)⟩
   obtain⟨g,off,rfl,q0,q1,q2⟩:=asJ.out k _ hz;replace q0:=hK.aq q0 (λe=>e);replace q1:=hK.aq q1 (λe=>e);replace q2:=hK.aq q2 (λe=>e);have xY:(k:Int) < (KL:Int):=ab;have oL:(0:Int)<=(k:Int):=ab;have ez:L.take (k+1)=L.take k++[s]:=by rw[wZ,<-hL.out,qC,hz];rfl
   dsimp only at q0 q1 q2;revert hz ez;refine ct ?_;intro hz ez;go_wp2_with fail;refine bD (aw5 _ _ _ _) λw2 K2=>?_;have gu:=hK.trans' (((Kept.refl aK wr).alloc (cO #[s,.int .i64 n,.bool r] 101)).trans' K2);have qY:=ah (hO.no (((Kept.refl aK wr).alloc (cO #[s,.int .i64 n,.bool r] 101)).trans' K2));go_wp2_with (at_builtin;refine OS.app rfl (.tmp 14) (.tmp 18) rfl qY rfl s rfl gu.size (by rw[Am];omega) ?_;intro v4 w4 T5 yu);obtain⟨a5,c5,rfl⟩:=T5.form;have hl5:(L.take k++[s]).length=k+1:=atV;rw[hl5] at T5|-;go_wp2_with fail;go_roundg (gk - 1)
   case measure=>omega
   case rel=>exact⟨k+1,by simp,by omega,by rw[ez.out];exact T5,(gu.alloc _).trans yu λb hb e=>by omega⟩
  .have hkK:k=KL:=by omega
   subst hkK;have xY:¬(k:Int) < (k:Int):=ab;rw[oh (by rw[sc.out];exact aM _)] at hO;exact atw
def cE(nm:Yz):Int:=if nm∈eN then 0 else 4
def axH(nm:Yz):List (List Nat):=if nm∈eN then axs nm else[]
def avN(nm:Yz):(cz nm).length<=9:=by
 by_cases h:nm∈at8
 .exact(by decide:∀t∈at8,(cz t).length<=9) nm h
 .rw[at1 h];decide
def awf(hm:bW nm)(w:YC):Calls prog 19 #[nm] w λe w'=>∃a c,e=.returned (.tuple #[sV a (axH nm).length c,cE nm])/\an w w' (.sl (strs (axH nm))) (sV a (axH nm).length c)/\Kept aK w w':=by
 have hf:=ah (λw=>Ts hm w);have hc:=ah (λw=>au4 hm w);go_enter func19,ntmps19;go_wp2_with fail;refine(hf _).mono ?_;rintro e w1 (⟨k,a,c,hk,Md,rfl,hv,K1⟩|⟨eK,rfl,K1⟩)
 .have lQ:nm∈eN:=(Ni hk Md).2;have e1:axH nm=axs nm:=aI lQ;have e2:cE nm=0:=aI lQ;obtain⟨ML,Ab⟩:∃m,(zO.getD k []).length=m:=⟨_,rfl⟩
  rw[Ab];replace K1:=K1.alloc (cO #[nm,sV a ML c,(tL prog k)] 64);revert Md hv lQ e1 e2 Ab;refine LX ?_;intro Md hv lQ e1 e2 Ab;go_wp2_with fail;refine(hc _).mono ?_;rintro e w2 ⟨a2,rfl,jo,K2⟩;have h45:=aw6 (cn (avN nm) ab) jo;obtain⟨CL,hCL⟩:∃m,(cz nm).length=m:=⟨_,rfl⟩
  rw[hCL] at h45|-;revert jo h45 hCL;refine jk ?_;intro jo h45 hCL;go_wp2_with fail;refine h45.mono ?_;rintro e w3 ⟨a3,c3,rfl,FJ,K3⟩;obtain⟨ayo,hDL⟩:∃m,((cz nm).map (·.1)).length=m:=⟨_,rfl⟩
  rw[hDL] at FJ|-;revert FJ hDL;refine ct ?_;intro FJ hDL;go_wp2_with fail;refine bG (B8 rfl _ _ _) rfl ?_;rw[e1.out,e2.out];unfold axs;rw[hDL.out];exact⟨_,_,rfl,FJ.mono λb hb _=>cn (K1.trans' K2).size hb,(K1.trans' K2).trans' K3⟩
 .have e1:axH nm=[]:=aE eK;have e2:cE nm=4:=aE eK;replace e1:=ah e1;replace e2:=ah e2;replace eK:=ah eK;go_wp2_with fail;refine bG (B8 rfl _ _ _) rfl ?_;rw[e1.out,e2.out];exact⟨none,0,rfl,.nil,K1.alloc _⟩
abbrev axI:=List Nat×Nat×Bool
def aw7{w:YC}{n:Yz}{x:Int}{y:TG}(hn:bW n)(hm:bW nm)(hb:w.heap[bx]?=some (.cells #[nm] 9 (0,0))):Calls prog 86 #[.agg #[.string (bs n),x,y],.pointer bx] w λe w'=>e=.returned (.bool (decide (n=nm)))/\Kept aK w w':=by
 have c0:=(iW w (cO #[n,.int .i64 x,.bool y] 101) bx 0 (aQ.1 hb).1).trans (aC hb 0);have e:((bs n).toList==(bs nm).toList)=decide (n=nm):=by rw[cH hn hm,sM];simp
 replace hb:=ah hb;go_enter func86,ntmps86;exact asI
def awR(l:List axI)(s:Yz)(w:YC)(e:TP)(w':YC):Prop:=((∃(k:Nat) (n:Nat) (r:TG),l[k]?=some (s,n,r)/\l.lookup s=some (n,r)/\e=.returned (iV k))∨(l.lookup s=none/\e=.returned (iV (-1))))/\Kept aK w w'
def awS{w:YC}{l:List axI}{c:Nat}(bL:∀x∈l,bW x.1){s:Yz}(hs:bW s)(hn:l.length<=1000)(hx:an S w (.sl (axO l)) (sV a l.length c))(hb:w.heap[bx]?=some (.cells #[s] 9 (0,0))):Calls prog 85 #[sV a l.length c,.func (.func 86) #[] #[.pointer bx]] w (awR l s w):=by
 have asJ:=λk x h=>au5 (k:=k) (x:=x) hx h;obtain⟨KL,sc⟩:∃m,l.length=m:=⟨_,rfl⟩
 rw[sc] at hn|-;clear hx;revert hb asJ sc;refine jk ?_;intro hb asJ sc;go_enter func85,ntmps85;go_wp2_with fail;go_loopg [8] KL (λgg s8 wr=>∃k:Nat,s8=iV k/\k+gg=KL/\Hid (l.lookup s=(l.drop k).lookup s)/\Hid (Kept aK w wr))
 case atStart=>exact⟨0,rfl,by omega,rfl,Kept.refl _ _⟩
 case round=>
  obtain⟨k,rfl,hk,hl,hK⟩:=hrel;by_cases bQ:k < KL
  .have aiu:k < l.length:=by rw[sc.out];exact bQ
   obtain⟨⟨z,n,r⟩,hz⟩:∃z,l[k]?=some z:=⟨_,ck aiu⟩
   have hzS:=bL _ (cm hz);obtain⟨g,off,rfl,q0,q1,q2⟩:=asJ.out k _ hz;replace q0:=hK.aq q0 (λe=>e);replace q1:=hK.aq q1 (λe=>e);replace q2:=hK.aq q2 (λe=>e);have xY:(k:Int) < (KL:Int):=ab;have oL:(0:Int)<=(k:Int):=ab;have M6:=ah (aJ hb.out hK.out);have axE:l.drop k=(z,n,r)::l.drop (k+1):=by exact auu
   dsimp only at q0 q1 q2 hzS;replace hz:=ah hz;replace axE:=ah axE;go_wp2_with fail;refine(aw7 hzS hs M6).mono ?_;rintro e w2 ⟨rfl,K2⟩;by_cases he:z=s
   .rw[B4 he];go_wp2_with fail;go_ret;subst he;exact⟨.inl ⟨k,n,r,hz.out,by rw[hl.out,axE.out,at6,beq_self_eq_true],rfl⟩,hK.trans' K2⟩
   .rw[B5 he];go_wp2_with fail;go_roundg (gk - 1)
    case measure=>omega
    case rel=>exact⟨k+1,by simp,by omega,by rw[hl.out,axE.out,at6,gH.2 (Pr he)];rfl,hK.trans' K2⟩
  .have xY:¬(k:Int) < (KL:Int):=by omega
   go_wp2_with fail;go_ret;exact⟨.inr ⟨by rw[hl.out,at5 asK];rfl,rfl⟩,hK⟩
def awH:∀x∈cz nm,bW x.1:=by
 by_cases h:nm∈at8
 .exact(by decide:∀t∈at8,∀x∈cz t,∀c∈x.1,c < 256) nm h
 .rw[at1 h];exact λ_ h=>by cases h
def awg(nm s:Yz)(w:YC)(e:TP)(w':YC):Prop:=((∃(n:Nat) (r:TG),(cz nm).lookup s=some (n,r)/\e=.returned (.tuple #[.agg #[s,iV n,.bool r],.bool true]))∨((cz nm).lookup s=none/\e=.returned (.tuple #[.agg #[eS,oZ,.bool false],.bool false])))/\Kept aK w w'
def auC(hm:bW nm)(hs:bW s)(w:YC):Calls prog 54 #[nm,s] w (awg nm s w):=by
 refine fg ?_;intro sE;obtain⟨W,hW⟩:∃W,W=(w.alloc (cO #[s] 9)).alloc (cO #[eS,oZ,.bool false] 101):=⟨_,rfl⟩
 have dZ:Kept aK w W:=auj;have lL:W.heap[w.heap.size]?=some (.cells #[s] 9 (0,0)):=by rw[hW];exact aD ao
 have jy:W.heap[w.heap.size+1]?=some (.cells #[eS,oZ,.bool false] 101 (0,0)):=by rw[hW,heap_alloc,aI ai]
 have hc:=ah (λw=>au4 hm w);have h9:=avN nm;revert hW dZ lL jy;refine jU ?_;intro hW dZ lL jy;go_enter func54,ntmps54;go_wp2_with fail;rw[<-hW.out];refine(hc _).mono ?_;rintro e w1 ⟨a,rfl,hx,K1⟩;have gJ:=ah (aJ lL.out K1);have Cm:=ah (aJ jy.out K1);have Io:=ah (dZ.trans' K1);have h85:=awS awH hs ab hx gJ;have hel:=λk x h=>au5 (k:=k) (x:=x) hx h;have bQ:=fun(k:Nat) (x:axI) (h:(cz nm)[k]?=some x)=>(dk.1 h).1;obtain⟨KL,sc⟩:∃m,(cz nm).length=m:=⟨_,rfl⟩
 rw[sc] at h9 h85|-;revert hx hel bQ h85 sc;refine nx ?_;intro hx hel bQ h85 sc;go_wp2_with fail;refine h85.mono ?_;rintro e w2 ⟨⟨k,n,r,hz,hl,rfl⟩|⟨hl,rfl⟩,K2⟩
 .have hk:=bQ.out _ _ hz;rw[sc.out] at hk;obtain⟨g,off,rfl,q0,q1,q2⟩:=hel.out _ _ hz;replace q0:=K2.aq q0 (λe=>e);replace q1:=K2.aq q1 (λe=>e);replace q2:=K2.aq q2 (λe=>e);have jV:=aJ Cm K2;have gu:=ah (Io.trans' K2);have xY:¬(k:Int) < 0:=ab;have oL:(k:Int) < (KL:Int):=ab;have ij:(0:Int)<=(k:Int):=ab;dsimp only at q0 q1 q2;revert hz hl jV;refine jk ?_;intro hz hl jV;go_wp2_with (refine str jV ?_);have auJ:=lz _ _ _ #[s,.int .i64 n,.bool r] _ _ jV;have z0:=aC auJ 0;have z1:=aC auJ 1;have z2:=aC auJ 2;refine bG (v:=.tuple #[.agg #[.string (bs s),.int .i64 n,.bool r],true]) atP rfl ?_;exact⟨.inl ⟨n,r,hl.out,rfl⟩,gu.trans (fH w2 (w.heap.size+1) #[s,.int .i64 n,.bool r]) λb hb e=>by omega⟩
 .have jV:=aJ Cm K2;have gu:=ah (Io.trans' K2);revert hl jV;refine ct ?_;intro hl jV;go_wp2_with (first|refine QW ?_|refine str jV ?_);have auJ:=lz _ _ _ #[eS,oZ,.bool false] _ _ jV;have z0:=aC auJ 0;have z1:=aC auJ 1;have z2:=aC auJ 2;refine bG (v:=.tuple #[.agg #[eS,oZ,.bool false],.bool false]) atP rfl ?_;exact⟨.inr ⟨hl.out,rfl⟩,gu.trans (fH w2 (w.heap.size+1) #[eS,oZ,.bool false]) λb hb e=>by omega⟩
abbrev SC:=List Nat×Int×Int
def axM(l:List SC):List Row:=l.map λx=>[.str x.1,.int x.2.1,.int x.2.2]
def auK(l:List SC):Prop:=∀x∈l,bW x.1/\(-9223372036854775808<=x.2.1/\x.2.1<=9223372036854775807)/\-9223372036854775808<=x.2.2/\x.2.2<=9223372036854775807
def wiB(n:Int):Bool:=decide (-1099511627776<=n/\n<=1099511627776)
def axG(n:Nat)(A B:Int):Bool:=wiB A&&wiB B&&(decide (1<=n)||A==0)&&(decide (2<=n)||B==0)
def axL(nm:Yz)(x:SC):Bool:=match (cz nm).lookup x.1 with
 |some (n,_)=>axG n x.2.1 x.2.2
 |none=>false
def axz(nm:Yz)(l:List SC):Int:=if nm∈eN then if cz nm=[] then 1 else if 40 < l.length then 3 else if l.all (axL nm) then 0 else 1 else 4
def auo{w:YC}{l:List SC}{c:Nat}(hx:an S w (.sl (axM l)) (sV a l.length c)){k:Nat}{x:SC}(hk:l[k]?=some x):∃g off,a=some ⟨g,off,none⟩/\w.cell? ⟨g,off+k*3,none⟩=some (.string (bs x.1))/\w.cell? ⟨g,off+k*3+1,none⟩=some (.int .i64 x.2.1)/\w.cell? ⟨g,off+k*3+2,none⟩=some (.int .i64 x.2.2):=by obtain⟨g,off,eg,-,cs,hR,hc⟩:=hx.elem (k:=k) (row:=[.str x.1,.int x.2.1,.int x.2.2]) (by unfold axM;rw[List.getElem?_map,hk];rfl);exact aub
def awI(n:Int)(w:YC)(h0:-9223372036854775808<=n)(h1:n<=9223372036854775807):Calls prog 55 #[.int .i64 n] w λe w'=>e=.returned (.bool (wiB n))/\w'=w:=(O6 n w h0 h1).mono λ_ _ ⟨a,b⟩=>⟨a,b.symm⟩
def auP:∀{nm s:Yz} {n:Nat} {r:TG},(cz nm).lookup s=some (n,r)->n<=2:=by
 intro nm s n r h;have hl:∀(l:List axI),l.lookup s=some (n,r)->(s,n,r)∈l:=by
  intro l;induction l with
  |nil=>intro h;cases h
  |cons x l ih=>
   intro h;rw[at6] at h;split at h
   .rename_i e;obtain⟨x1,x2⟩:=x
    cases h;rw[dU.1 e];exact eu
   .exact eC _ (ih h)
 by_cases hm:nm∈at8
 .exact(by decide:∀t∈at8,∀x∈cz t,x.2.1<=2) nm hm _ (hl _ h)
 .rw[at1 hm] at h;cases h
def aw8(h:nm∈at8):1<=(cz nm).length/\nm∈eN:=(by decide:∀t∈at8,1<=(cz t).length/\t∈eN) nm h
def aup(hm:bW nm){S:Wq}{l:List SC}(hl:auK l){a:YS}{c:Nat}{w:YC}(hx:an S w (.sl (axM l)) (sV a l.length c)):Calls prog 25 #[nm,sV a l.length c] w λe w'=>e=.returned (iV (axz nm l))/\Kept aK w w':=by
 have asJ:=λk x h=>auo (k:=k) (x:=x) hx h;have hf:=ah (λw=>Ts hm w);have hc:=ah (λw=>au4 hm w);obtain⟨KL,sc⟩:∃m,l.length=m:=⟨_,rfl⟩
 obtain⟨R,hR⟩:∃m,axz nm l=m:=⟨_,rfl⟩
 rw[sc,hR];clear hx;revert hl asJ sc hR;refine jU ?_;intro hl asJ sc hR;go_enter func25,ntmps25;go_wp2_with fail;refine(hf _).mono ?_;rintro e w1 (⟨k,a1,c1,hk,Md,rfl,hv,K1⟩|⟨eK,rfl,K1⟩)
 .have lQ:nm∈eN:=(Ni hk Md).2;obtain⟨ML,Ab⟩:∃m,(zO.getD k []).length=m:=⟨_,rfl⟩
  rw[Ab];replace K1:=K1.alloc (cO #[nm,sV a1 ML c1,(tL prog k)] 64);revert Md hv lQ Ab;refine jU ?_;intro Md hv lQ Ab;go_wp2_with fail;refine(hc _).mono ?_;rintro e w2 ⟨a2,rfl,jo,K2⟩;have gu:=ah (K1.trans' K2);obtain⟨CL,hCL⟩:∃m,(cz nm).length=m:=⟨_,rfl⟩
  rw[hCL];replace jo:=ah jo;by_cases h0:CL=0
  .subst h0;go_wp2_with fail;go_ret;have e:cz nm=[]:=W9.1 hCL;refine⟨?_,gu⟩;rw[<-hR.out];unfold axz;rw[aI lQ.out,aI e];rfl
  have h1:¬(CL:Int)=0:=ab;have h1':((CL:Int)==0)=false:=kW;have cR:Hid (cz nm≠[]):=λe=>h0 (by rw[<-hCL,e];rfl);replace hCL:=ah hCL;by_cases h4:40 < KL
  .exact ath
  have h4':¬(40:Int) < (KL:Int):=ab;have auy:Hid (R=if l.all (axL nm) then 0 else 1):=by exact atp
  go_wp2_with fail;go_loopg [27] KL (λgg s27 wr=>∃k:Nat,s27=iV k/\k+gg=KL/\Hid (R=if(l.drop k).all (axL nm) then 0 else 1)/\Hid (Kept aK w wr))
  case atStart=>exact⟨0,rfl,by omega,auy,gu⟩
  case round=>
   obtain⟨k,rfl,hk,hr,hK⟩:=hrel;by_cases bQ:k < KL
   .have aiu:k < l.length:=by rw[sc.out];exact bQ
    obtain⟨⟨s,A,B⟩,hz⟩:∃z,l[k]?=some z:=⟨_,ck aiu⟩
    obtain⟨hs,⟨a0,a1⟩,b0,b1⟩:=hl.out _ (cm hz);obtain⟨g,off,rfl,q0,q1,q2⟩:=asJ.out k _ hz;replace q0:=hK.aq q0 (λe=>e);replace q1:=hK.aq q1 (λe=>e);replace q2:=hK.aq q2 (λe=>e);have xY:(k:Int) < (KL:Int):=ab;have oL:(0:Int)<=(k:Int):=ab;have axE:l.drop k=(s,A,B)::l.drop (k+1):=by exact auu
    have avF:Hid (R=if(axL nm (s,A,B)&&(l.drop (k+1)).all (axL nm)) then 0 else 1):=axF;dsimp only at q0 q1 q2 hs a0 a1 b0 b1;have c54:=ah (λw=>auC hm hs w);replace hz:=ah hz;replace axE:=ah axE;replace hs:=ah hs;go_wp2_with fail;refine(c54 _).mono ?_;rintro e w3 ⟨hco,K3⟩;have xq:=ah ((hK.alloc (cO #[s,.int .i64 A,.int .i64 B] 59)).trans' K3);have d8:=aJ (show(wr.alloc (cO #[s,.int .i64 A,.int .i64 B] 59)).heap[wr.heap.size]?=some (.cells #[s,.int .i64 A,.int .i64 B] 59 (0,0)) by rw[heap_alloc,aI rfl]) K3;rcases hco with⟨n,r,auI,rfl⟩|⟨auI,rfl⟩
    .have Pt:=auP auI;have e8:axL nm (s,A,B)=axG n A B:=by unfold axL;rw[auI]
     have d9:(w3.alloc (cO #[s,iV n,.bool r] 101)).heap[w3.heap.size]?=some (.cells #[s,iV n,.bool r] 101 (0,0)):=ao;have hb8:=aD (x:=cO #[s,iV n,.bool r] 101) d8;have yu:=ah (xq.alloc (cO #[s,iV n,.bool r] 101));obtain⟨BB,hBB⟩:∃b,axG n A B=b:=⟨_,rfl⟩
     rw[e8,hBB] at avF;obtain⟨V,hV⟩:∃V,V=w3.alloc (cO #[s,iV n,.bool r] 101):=⟨_,rfl⟩
     rw[<-hV] at d9 hb8 yu;have z1:=aC hb8 1;have z2:=aC hb8 2;have z3:=aC d9 1;revert d8 auI e8 avF hBB hb8 d9;refine Wy ?_;intro d8 auI e8 avF hBB hb8 d9;go_upto_region 12 with fail;rw[<-hV];replace hV:=ah hV;have axS:=λw=>awI A w a0 a1;have axT:=λw=>awI B w b0 b1;obtain⟨axU,hA⟩:∃b,wiB A=b:=⟨_,rfl⟩
     obtain⟨bB,hB⟩:∃b,wiB B=b:=⟨_,rfl⟩
     rw[hA] at axS;rw[hB] at axT;have hb:=hBB.out;unfold axG at hb;rw[hA,hB] at hb;replace axS:=ah axS;replace axT:=ah axT;replace hA:=ah hA;replace hB:=ah hB;go_cut [71] from 38 (λv71 wc=>v71=.bool (!BB)/\wc=V)
     case first=>
      have key:axU=false∨axU=true/\bB=false∨axU=true/\bB=true/\(n=2∨n=1/\B=0∨n=1/\B≠0∨n=0/\A≠0∨n=0/\A=0/\B≠0∨n=0/\A=0/\B=0):=by cases axU<;>cases bB<;>simp<;>omega
      rcases key with rfl|⟨rfl,rfl⟩|⟨rfl,rfl,rfl|⟨rfl,rfl⟩|⟨rfl,h0⟩|⟨rfl,h0⟩|⟨rfl,rfl,h0⟩|⟨rfl,rfl,rfl⟩⟩
      all_goals
       have hb:=ah hb;go_wp2_with (go_at_call 55;(first|with_reducible refine(axS.out _).mono ?_|with_reducible refine(axT.out _).mono ?_);rintro e w' ⟨rfl,rfl⟩);go_meet
       case rel=>exact⟨by rw[<-hb.out];first|rfl|simp[h0],rfl⟩
     case rest=>
      obtain⟨rfl,rfl⟩:=hcut
      cases BB with
      |true=>exact atg
      |false=>have hR4:Hid (R=1):=avF.out;go_wp2_with fail;go_ret;rw[hR4.out];exact⟨rfl,yu⟩
    .have e8:axL nm (s,A,B)=false:=by unfold axL;rw[auI]
     have hR4:R=1:=by rw[avF.out,e8];rfl
     replace hR4:=ah hR4;revert d8 auI e8;refine jk ?_;intro d8 auI e8;go_wp2_with fail;go_ret;rw[hR4.out];exact⟨rfl,xq.alloc _⟩
   .have xY:¬(k:Int) < (KL:Int):=by omega
    have hR4:R=0:=by rw[hr.out,at5 asK];rfl
    replace hR4:=ah hR4;go_wp2_with fail;go_ret;rw[hR4.out];exact⟨rfl,hK⟩
 .have e2:R=4:=by rw[<-hR.out];exact aE eK
  replace eK:=ah eK;replace e2:=ah e2;go_wp2_with fail;go_ret;rw[e2.out];exact⟨rfl,K1.alloc _⟩
open IntWalk
def aul:∀(f:Nat),f<=100->∀(n:Nat),n<=9223372036854775807->n < 10 ^ f->∀(w:YC),Calls prog 51 #[n] w λe w'=>e=.returned (.string (bs (tb (f+1) n)))/\Kept aK w w':=by
 intro f hf;have base:∀(n:Nat),n < 10->∀(w:YC),Calls prog 51 #[n] w λe w'=>e=.returned (.string (bs [48+n]))/\Kept aK w w':=by refine aui ?_;intro n h3 w h0 h4 hn hc;go_enter func51,ntmps51;exact atB
 induction f with
 |zero=>exact atu
 |succ f ih=>
 intro n h1 h2 w;rw[aaJ];by_cases h3:n < 10
 .rw[aI h3];exact base n h3 w
 .rw[aE h3];have h0:¬(n:Int) < 0:=ab;have h4:¬(n:Int) < 10:=ab;have ih':=ih ab (n / 10) ab aug;rw[show((n / 10:Nat):Int)=(n:Int) / 10 from by omega] at ih';have hw5:IntKind.i64.wrap (48+(n:Int) % 10)=48+(n:Int) % 10:=i64_in _ ab;have hw6:IntKind.u8.wrap (48+(n:Int) % 10)=48+(n:Int) % 10:=u8_in _ ab;have hwq:IntKind.i64.wrap ((n:Int) / 10)=(n:Int) / 10:=i64_in _ ab;have dM:¬9223372036854775807 < (bs (tb (f+1) (n / 10))).size+(bs [48+n % 10]).size:=by exact au0
  have Qy:(48+(n:Int) % 10).toNat=48+n % 10:=ab;replace ih':=ah ih';go_enter func51,ntmps51;go_wp2_with fail;refine aY [some 16,some 17,some 18,some 19,some 20,some 21,some 22,some 23,some 24,some 25,some 2] [0,1,2,3,4,5,6,7,8,9,10] (A:=?_) (λlb u V=>(Kept aK w V/\(lb 7=true->∃g,u 7=sV (some ⟨g,0,none⟩) 1 1/\w.heap.size<=g/\V.heap[g]?=some (.cells #[.int .u8 (48+(n:Int) % 10)] 5 (0,0))))/\VT [some (iV n),some (iV ((n:Int) / 10)),some (.string (bs (tb (f+1) (n / 10)))),some (iV n),some (iV ((n:Int) % 10)),some (iV (48+(n:Int) % 10)),some (.int .u8 (48+(n:Int) % 10)),none,some (.string (bs [48+n % 10])),some (.string (bs (tb (f+1) (n / 10)++[48+n % 10]))),some (.string (bs (tb (f+1) (n / 10)++[48+n % 10])))] lb u) af af (λu=>?_) (λlb u h0=>⟨⟨(Kept.refl aK w).drew,λe=>mX⟩,VT.none rfl h0⟩) ?_ (λlb u V hl hI=>?_);rotate_left
  .exact bK
  .exact as8
  exact ati
def as0(n:Int):List Nat:=cf (amq n)
def au6(h:avm n)(w:YC):Calls prog 51 #[.int .i64 n] w λe w'=>e=.returned (.string (bs (as0 n)))/\Kept aK w w':=by
 unfold avm at h;by_cases h0:n < 0
 .have e:as0 n=tx "- "++tb 20 (-n).toNat:=by unfold as0 amq;rw[if_pos h0];rfl
  have hc:=aul 19 ab (-n).toNat ab ab;have en:((-n).toNat:Int)=-n:=ab;have hw:IntKind.i64.wrap (-n)=-n:=i64_in _ ab;have dM:¬9223372036854775807 < (2:Nat)+(bs (tb 20 (-n).toNat)).size:=by exact atA
  rw[en] at hc;rw[e];obtain⟨D,hD⟩:∃D,tb 20 (-n).toNat=D:=⟨_,rfl⟩
  rw[hD] at hc dM|-;have hj:(⟨#[45,32]⟩:ByteArray)++bs D=bs (tx "- "++D):=aaK (tx "- ") D;revert hc hD hj;refine jk ?_;intro hc hD hj;go_enter func51,ntmps51;go_wp2_with fail;refine(hc _).mono ?_;exact ats
 .have e:as0 n=tb 20 n.toNat:=by unfold as0 amq;rw[if_neg h0];rfl
  have hc:=aul 19 ab n.toNat ab ab w;rw[show(n.toNat:Int)=n by omega] at hc;rw[e];exact hc
def avO(nm:Yz)(w:YC)(e:TP)(w':YC):Prop:=∃a,e=.returned (sV a (axs nm).length (axs nm).length)/\an (λb=>w.heap.size<=b) w' (.sl (strs (axs nm))) (sV a (axs nm).length (axs nm).length)/\Kept aK w w'
def w48(b:YR)(w:YC)(hb:bs nm=b:=by rfl)(hl:(axs nm).length<=1000:=by decide)
  (h:∀w,Calls prog 48 #[.string b] w λe w'=>e=.returned (sV w (axs nm).length (axs nm).length)/\w'=w.alloc (.cells ((axs nm).map λs=>Value.string (bs s)).toArray 9):=by
   intro w;go_enter func48,ntmps48;go_wp2;go_ret;exact⟨rfl,rfl⟩):Calls prog 48 #[nm] w (avO nm w):=by
 rw[hb];refine(h w).mono ?_;rintro e w' ⟨rfl,rfl⟩;exact⟨_,rfl,dS (axs nm) ao (aM _) hl,(Kept.refl aK w).alloc _⟩
def avr(hm:bW nm)(w:YC):Calls prog 48 #[nm] w (avO nm w):=by
 by_cases h:nm∈at8
 .simp only[at8,cZ,as5,as6] at h;rcases h with rfl|rfl|rfl|rfl|rfl|rfl|rfl|rfl|rfl
  .exact w48 gG w
  .exact w48 l8 w
  .exact w48 BX w
  .exact w48 BY w
  .exact w48 od w
  .exact w48 IV w
  .exact w48 aX w
  .exact w48 oe w
  .exact w48 og w
 .refine auh ?_;intro hn h0 h1 h2 h3 h4 h5 h6 h7 h8;have e:axs nm=[]:=by unfold axs;rw[at1 h];rfl
  unfold avO;rw[e];clear hn e;go_enter func48,ntmps48;go_wp2;go_ret;exact asR
def zk(h:nm∈eN):∃k,k < 12/\eN.getD k []=nm:=by obtain⟨j,hj,e⟩:=avD h;exact atj
def awh(hm:bW nm)(w:YC):Calls prog 20 #[nm] w λe w'=>∃a c,e=.returned (.agg #[sV a (axH nm).length c,cE nm])/\an w w' (.sl (strs (axH nm))) (sV a (axH nm).length c)/\Kept aK w w':=by
 refine atK ?_;intro hK hb;by_cases lQ:nm∈eN
 .obtain⟨k,hk,rfl⟩:=zk lQ;have h1:=aj4 hk;have e1:axH (eN.getD k [])=axs (eN.getD k []):=aI lQ;have e2:cE (eN.getD k [])=0:=aI lQ;have hc:=ah (λw=>Jy hk w);have hn:=ah (λw=>avr hm w);rw[e1,e2];obtain⟨NM,BS⟩:∃m,eN.getD k []=m:=⟨_,rfl⟩
  rw[BS] at hc hn|-;revert e1 e2 BS;refine jk ?_;intro e1 e2 BS;go_enter func20,ntmps20;go_wp2_with fail;refine(hc _).mono ?_;rintro e w1 ⟨rfl,rfl⟩;go_wp2_with fail;refine(hn _).mono ?_;rintro e w2 ⟨a,rfl,hv,K2⟩;have jy:=ah (aJ hb.out K2);have gu:=ah (hK.trans' K2);obtain⟨KA,kB⟩:∃m,(axs NM).length=m:=⟨_,rfl⟩
  rw[kB] at hv|-;revert hv kB;refine ct ?_;intro hv kB;go_wp2_with (first|refine QW ?_|refine str jy ?_);refine ou (lz _ _ _ #[sV a KA KA,oZ] _ _ jy) ?_;have WD:=fH w2 w.heap.size #[sV a KA KA,oZ];refine⟨a,KA,by rw[kB.out],?_,gu.trans WD λb hb e=>by omega⟩;exact atl
 .have hc:=ah (λw=>V4 hm lQ w);have e1:axH nm=[]:=aE lQ;have e2:cE nm=4:=aE lQ;rw[e1,e2];revert e1 e2;refine ct ?_;intro e1 e2;go_enter func20,ntmps20;go_wp2_with fail;refine(hc _).mono ?_;rintro e w1 ⟨rfl,rfl⟩;go_wp2_with (first|refine QW ?_|refine str hb ?_);refine ou (lz _ _ _ #[nS,iV 4] _ _ hb) ?_;exact⟨none,0,rfl,.nil,hK.trans (fH _ _ _) λb hb e=>by omega⟩
def A2q:List (List Nat):=[tx "force",tx "span",tx "gcd",tx "power"]
def A0q:List (List Nat):=[tx "count",tx "sum",tx "reverse",tx "wipe",tx "pop",tx "peek",tx "leave",tx "front",tx "size",tx "low",tx "high",tx "up"]
def ayh:List (List Nat):=[tx "count",tx "has",tx "item",tx "sum",tx "peek",tx "front",tx "value_of",tx "size",tx "low",tx "high",tx "contains",tx "gcd",tx "power",tx "fact",tx "tries"]
def as3(s:Yz):Nat:=if s∈A2q then 2 else if s∈A0q then 0 else 1
def au7(l:Y9){s:Yz}(hs:bW s)(w:YC){cs:Zt}(hc:cs=(l.map λs=>Value.string (bs s)).toArray)(hl:(∀s∈l,∀c∈s,c < 256)/\l.length<=1000:=by decide):Calls prog 35 #[sV w l.length l.length,.string (bs s)] (w.alloc (.cells cs 9)) λe w'=>e=.returned (.bool (decide (s∈l)))/\Kept aK w w':=by subst hc;refine(al8 (dS (S:=λ_=>True) (b:=w) l ao bw hl.2) hl.1 (by have:=hl.2;omega) hs).mono ?_;exact λe w' h=>⟨h.1,((Kept.refl aK w).alloc _).trans' h.2⟩
def avT(hs:bW s)(w:YC):Calls prog 56 #[s] w λe w'=>e=.returned (iV (as3 s))/\Kept aK w w':=by
 have c1:=λw=>au7 A2q hs w rfl;have c2:=λw=>au7 A0q hs w rfl;have ea:as3 s=if decide (s∈A2q) then 2 else if decide (s∈A0q) then 0 else 1:=by unfold as3;simp
 obtain⟨b1,h1⟩:∃b,decide (s∈A2q)=b:=⟨_,rfl⟩
 obtain⟨b2,h2⟩:∃b,decide (s∈A0q)=b:=⟨_,rfl⟩
 rw[h1] at c1 ea;rw[h2] at c2 ea;rw[ea];revert c1 h1 ea c2 h2;refine nx ?_;intro c1 h1 ea c2 h2
 cases b1 with
 |true=>go_enter func56,ntmps56;exact ato
 |false=>
  cases b2;all_goals
   go_enter func56,ntmps56;go_wp2_with fail;refine(c1.out _).mono ?_;rintro e w1 ⟨rfl,K1⟩;go_wp2_with fail;refine(c2.out _).mono ?_;rintro e w2 ⟨rfl,K2⟩;go_wp2_with fail;go_ret;exact⟨rfl,K1.trans' K2⟩
def avs(s:Yz):Bool:=decide (s∈ayh)
def aww(hs:bW s)(w:YC):Calls prog 52 #[s] w λe w'=>e=.returned (.bool (avs s))/\Kept aK w w':=by have c1:=λw=>au7 ayh hs w rfl;unfold avs;replace c1:=ah c1;go_enter func52,ntmps52;exact ato
def awJ(n:Int)(w:YC):Calls prog 57 #[.int .i64 n,iV (-1099511627776),iV 1099511627776] w λe w'=>e=.returned (.bool (wiB n))/\w'=w:=by
 unfold wiB;by_cases h0:-1099511627776<=n
 .by_cases h1:n<=1099511627776
  .rw[B4 ⟨h0,h1⟩];exact asU
  .rw[B5 λe=>h1 e.2];exact asU
 .rw[B5 λe=>h0 e.1];exact asU
def asX:(∀n r,(cz nm).lookup s=some (n,r)->s∈axs nm/\as3 s=n/\avs s=r)/\((cz nm).lookup s=none->s∉axs nm):=by
 have hl:∀(l:List axI),(∀n r,l.lookup s=some (n,r)->(s,n,r)∈l)/\(l.lookup s=none->s∉l.map (·.1)):=by
  intro l;induction l with
  |nil=>exact⟨λ_ _ h=>asD,λ_ h=>asD⟩
  |cons x l ih=>
   obtain⟨x1,x2,x3⟩:=x;by_cases e:s=x1
   .subst e;rw[at6,beq_self_eq_true];exact⟨λn r h=>(by cases h;exact eu),λh=>asD⟩
   .rw[at6,gH.2 e];exact⟨λn r h=>eC _ (ih.1 n r h),λh hm=>(cZ.1 hm).elim e (ih.2 h)⟩
 refine⟨λn r h=>?_,(hl _).2⟩;have hm:=(hl _).1 n r h;by_cases h9:nm∈at8
 .exact⟨dO.2 ⟨_,hm,rfl⟩,(by decide+kernel:∀t∈at8,∀x∈cz t,as3 x.1=x.2.1/\avs x.1=x.2.2) nm h9 _ hm⟩
 .rw[at1 h9] at hm;cases hm
def avU(nm:Yz):(∀s∈axs nm,bW s)/\(axs nm).length<=9:=by unfold axs;rw[Af];refine⟨λs h=>?_,avN nm⟩;obtain⟨x,hx,rfl⟩:=dO.1 h;exact awH x hx
def avt(hm:bW nm){S:Wq}{l:List SC}(hl:auK l){a:YS}{c:Nat}{w:YC}(hx:an S w (.sl (axM l)) (sV a l.length c)):Calls prog 26 #[nm,sV a l.length c] w λe w'=>e=.returned (iV (axz nm l))/\Kept aK w w':=by
 have asJ:=λk x h=>auo (k:=k) (x:=x) hx h;have hc:=ah (λw=>avr hm w);obtain⟨KL,sc⟩:∃m,l.length=m:=⟨_,rfl⟩
 obtain⟨R,hR⟩:∃m,axz nm l=m:=⟨_,rfl⟩
 rw[sc,hR];clear hx;revert hl asJ sc hR;refine jU ?_;intro hl asJ sc hR;by_cases lQ:nm∈eN
 .have ht:Hid (∀w,∃b,(b.toList==([]:List UInt8))=false/\Calls prog 30 #[nm] w λe w'=>e=.returned (.string b)/\w'=w):=λw=>by
   obtain⟨k,hk,rfl⟩:=zk lQ;exact⟨_,aj4 hk,Jy hk w⟩
  obtain⟨b,hb,ht⟩:=ht.out w;revert lQ ht;refine ct ?_;intro lQ ht;go_enter func26,ntmps26;go_wp2_with fail;refine ht.mono ?_;rintro e w1 ⟨rfl,rfl⟩;go_wp2_with fail;refine(hc _).mono ?_;rintro e w2 ⟨a2,rfl,jo,gu⟩;have h35:=fun(s:Yz) (hs:bW s) (V:YC) (hK:Kept aK w2 V)=>al8 (jo.kept hK (λ_ _ _ e=>e)) (avU nm).1 (by have:=(avU nm).2;omega) hs;have cR:axs nm=[]->cz nm=[]:=λe=>avE.1 e;have Pt:(axs nm).length=0↔cz nm=[]:=by unfold axs;rw[List.length_map];exact List.length_eq_zero_iff
  obtain⟨CL,hCL⟩:∃m,(axs nm).length=m:=⟨_,rfl⟩
  rw[hCL] at Pt h35|-;revert jo gu h35 hCL;refine jU ?_;intro jo gu h35 hCL;by_cases h0:CL=0
  .subst h0;have e:=Pt.1 rfl;revert Pt e;refine ct ?_;intro Pt e;go_wp2_with fail;go_ret;refine⟨?_,gu⟩;rw[<-hR.out];unfold axz;rw[aI lQ.out,aI e.out];rfl
  have h1:¬(CL:Int)=0:=ab;have h1':((CL:Int)==0)=false:=kW;have cR:Hid (cz nm≠[]):=λe=>h0 (Pt.2 e);replace Pt:=ah Pt;by_cases h4:40 < KL
  .exact ath
  have h4':¬(40:Int) < (KL:Int):=ab;have auy:Hid (R=if l.all (axL nm) then 0 else 1):=by exact atp
  go_wp2_with fail;go_loopg [6] KL (λgg s6 wr=>∃k:Nat,s6=iV k/\k+gg=KL/\Hid (R=if(l.drop k).all (axL nm) then 0 else 1)/\Hid (Kept aK w2 wr))
  case atStart=>exact⟨0,rfl,by omega,auy,Kept.refl _ _⟩
  case round=>
   obtain⟨k,rfl,hk,hr,hK⟩:=hrel;by_cases bQ:k < KL
   .have aiu:k < l.length:=by rw[sc.out];exact bQ
    obtain⟨⟨s,A,B⟩,hz⟩:∃z,l[k]?=some z:=⟨_,ck aiu⟩
    obtain⟨hs,⟨a0,a1⟩,b0,b1⟩:=hl.out _ (cm hz);obtain⟨g,off,rfl,q0,q1,q2⟩:=asJ.out k _ hz;have lH:=gu.out.trans' hK.out;replace q0:=lH.aq q0 (λe=>e);replace q1:=lH.aq q1 (λe=>e);replace q2:=lH.aq q2 (λe=>e);have xY:(k:Int) < (KL:Int):=ab;have oL:(0:Int)<=(k:Int):=ab;have axE:l.drop k=(s,A,B)::l.drop (k+1):=by exact auu
    have avF:Hid (R=if(axL nm (s,A,B)&&(l.drop (k+1)).all (axL nm)) then 0 else 1):=axF;dsimp only at q0 q1 q2 hs a0 a1 b0 b1;have c56:=ah (λw=>avT hs w);have c35:=h35.out s hs;obtain⟨ax3,hIS⟩:∃b,decide (s∈axs nm)=b:=⟨_,rfl⟩
    obtain⟨n,hn⟩:∃n,as3 s=n:=⟨_,rfl⟩
    have axo:n<=2:=atO;have bL:axL nm (s,A,B)=(ax3&&axG n A B):=by
     unfold axL
     cases e:(cz nm).lookup s with
     |none=>rw[<-hIS,B5 (asX.2 e)];rfl
     |some p=>obtain⟨m,r⟩:=p;obtain⟨h1,h2,-⟩:=asX.1 _ _ e;rw[<-hIS,B4 h1,<-hn,h2];rfl
    rw[hIS] at c35;rw[hn] at c56;have k8:=(Kept.refl aK wr).alloc (cO #[s,.int .i64 A,.int .i64 B] 59);have d8:(wr.alloc (cO #[s,.int .i64 A,.int .i64 B] 59)).heap[wr.heap.size]?=some (.cells #[s,.int .i64 A,.int .i64 B] 59 (0,0)):=ao;replace hz:=ah hz;replace axE:=ah axE;replace hs:=ah hs;replace hIS:=ah hIS;replace hn:=ah hn;replace lH:=ah lH;replace d8:=ah d8;replace k8:=ah k8;replace c35:=ah c35;go_wp2_with fail;refine(c56 _).mono ?_;rintro e w3 ⟨rfl,K3⟩;have d9:=aJ d8.out K3;have xq:=ah ((hK.trans' k8.out).trans' K3);have y0:=aC d9 0;replace d9:=ah d9;go_wp2_with fail;refine(c35.out _ xq).mono ?_;rintro e w4 ⟨rfl,K4⟩;have d10:=aJ d9.out K4;have yu:=ah (xq.trans' K4);have z1:=aC d10 1;have z2:=aC d10 2;obtain⟨BB,hBB⟩:∃b,(ax3&&axG n A B)=b:=⟨_,rfl⟩
    rw[bL,hBB] at avF;have axS:=λw=>awJ A w;have axT:=λw=>awJ B w;obtain⟨axU,hA⟩:∃b,wiB A=b:=⟨_,rfl⟩
    obtain⟨bB,hB⟩:∃b,wiB B=b:=⟨_,rfl⟩
    rw[hA] at axS;rw[hB] at axT;have hb:=hBB;unfold axG at hb;rw[hA,hB] at hb;replace d10:=ah d10;replace avF:=ah avF;replace bL:=ah bL;replace hBB:=ah hBB;replace axS:=ah axS;replace axT:=ah axT;replace hA:=ah hA;replace hB:=ah hB;go_upto_region 14 with fail;go_cut [69] from 38 (λv69 wc=>v69=.bool (!BB)/\wc=w4)
    case first=>
     have key:ax3=false∨ax3=true/\(axU=false∨axU=true/\bB=false∨axU=true/\bB=true/\(n=2∨n=1/\B=0∨n=1/\B≠0∨n=0/\B≠0∨n=0/\B=0/\A≠0∨n=0/\B=0/\A=0)):=by cases ax3<;>cases axU<;>cases bB<;>simp<;>omega
     rcases key with rfl|⟨rfl,rfl|⟨rfl,rfl⟩|⟨rfl,rfl,rfl|⟨rfl,rfl⟩|⟨rfl,h0⟩|⟨rfl,h0⟩|⟨rfl,rfl,h0⟩|⟨rfl,rfl,rfl⟩⟩⟩
     all_goals
      have hb:=ah hb;go_wp2_with (go_at_call 57;(first|with_reducible refine(axS.out _).mono ?_|with_reducible refine(axT.out _).mono ?_);rintro e w' ⟨rfl,rfl⟩);go_meet
      case rel=>exact⟨by rw[<-hb.out];first|rfl|simp[h0,bne],rfl⟩
    case rest=>
     obtain⟨rfl,rfl⟩:=hcut
     cases BB with
     |true=>exact atg
     |false=>have hR4:Hid (R=1):=avF.out;go_wp2_with fail;go_ret;rw[hR4.out];exact⟨rfl,gu.trans' yu⟩
   .have xY:¬(k:Int) < (KL:Int):=by omega
    have hR4:R=0:=by rw[hr.out,at5 asK];rfl
    replace hR4:=ah hR4;go_wp2_with fail;go_ret;rw[hR4.out];exact⟨rfl,gu.trans' hK⟩
 .have e2:R=4:=by rw[<-hR.out];exact aE lQ
  have ht:=ah (λw=>V4 hm lQ w);revert lQ e2;refine ct ?_;intro lQ e2;go_enter func26,ntmps26;go_wp2_with fail;refine(ht _).mono ?_;rintro e w1 ⟨rfl,rfl⟩;go_wp2_with fail;go_ret;rw[e2.out];exact⟨rfl,Kept.refl _ _⟩
open Go.IntWalk
def asE(n:Int):(as0 n).length<=22:=by
 unfold as0 amq;split
 .have:=VK 20 (-n).toNat;show([45]++32::tb 20 (-n).toNat).length<=22;simp;omega
 .have:=VK 20 n.toNat;show(tb 20 n.toNat).length<=22;omega
def axv(n:Nat)(A B:Int):List Nat:=if n=1 then tx " ( "++as0 A++tx " )" else if n=2 then tx " ( "++as0 A++tx " , "++as0 B++tx " )" else[]
def awi(hs:bW s)(hl:s.length<=1000){A B:Int}(axA:avm A)(axJ:avm B)(w:YC):Calls prog 53 #[.agg #[s,.int .i64 A,.int .i64 B]] w λe w'=>e=.returned (.string (bs (tx "c . "++s++axv (as3 s) A B)))/\Kept aK w w':=by
 have h56:=λw=>avT hs w;have hA:=λw=>au6 axA w;have hB:=λw=>au6 axJ w;have la:=asE A;have lb:=asE B;have s0:(bs s).size=s.length:=tf s;have ax5:(⟨#[99,32,46,32]⟩:ByteArray)++bs s=bs (tx "c . "++s):=aaK (tx "c . ") s;have hz:(w.alloc (cO #[s,.int .i64 A,.int .i64 B] 59)).heap[w.heap.size]?=some (.cells #[s,.int .i64 A,.int .i64 B] 59 (0,0)):=ao;have k0:=(Kept.refl aK w).alloc (cO #[s,.int .i64 A,.int .i64 B] 59);obtain⟨n,hn⟩:∃n,as3 s=n:=⟨_,rfl⟩
 have Pt:n<=2:=atO;obtain⟨at9,hTA⟩:∃t,as0 A=t:=⟨_,rfl⟩
 obtain⟨axB,hTB⟩:∃t,as0 B=t:=⟨_,rfl⟩
 obtain⟨P0,hP⟩:∃t,tx "c . "++s=t:=⟨_,rfl⟩
 have ayi:P0.length=4+s.length:=by rw[<-hP,j0];rfl
 have s1:(bs P0).size=P0.length:=tf P0;have s2:(bs at9).size=at9.length:=tf at9;have j1:∀a,bs a++(⟨#[32,40,32]⟩:ByteArray)=bs (a++tx " ( "):=λa=>aaK a (tx " ( ");have ax1:∀a,bs a++(⟨#[32,44,32]⟩:ByteArray)=bs (a++tx " , "):=λa=>aaK a (tx " , ");have j11:∀a,bs a++(⟨#[32,41]⟩:ByteArray)=bs (a++tx " )"):=λa=>aaK a (tx " )");rw[hP] at ax5;rw[hTA] at hA la;rw[hTB] at hB lb;rw[hn] at h56|-;unfold axv;rw[hTA,hTB,hP];replace j1:=ah j1;replace ax1:=ah ax1;replace j11:=ah j11;replace h56:=ah h56;replace hA:=ah hA;replace hB:=ah hB;replace ax5:=ah ax5;replace hz:=ah hz;replace k0:=ah k0;replace hn:=ah hn;replace hTA:=ah hTA;replace hTB:=ah hTB;replace hP:=ah hP;go_enter func53,ntmps53;go_wp2_with fail;rw[ax5.out];refine(h56 _).mono ?_;rintro e w1 ⟨rfl,K1⟩;have d1:=aJ hz.out K1;have y1:=aC d1 1;have y2:=aC d1 2;replace K1:=ah (k0.trans' K1);replace d1:=ah d1;obtain rfl|rfl|rfl:n=0∨n=1∨n=2:=ab
 .exact asQ
 .go_wp2_with fail;refine(hA _).mono ?_;rintro e w2 ⟨rfl,K2⟩;go_wp2_with fail;go_ret;refine⟨gq (λb=>Ending.returned (.string b)) ?_,K1.trans' K2⟩;show bs P0++bs (tx " ( ")++bs at9++bs (tx " )")=_;exact asS
 have z1:¬9223372036854775807 < (bs P0).size+3:=by rw[tf];omega
 have z5:¬9223372036854775807 < (bs (P0++tx " ( ")).size+(bs at9).size:=by simp only[tf,j0,show(tx " ( ").length=3 from rfl];omega
 have z6:¬9223372036854775807 < (bs (P0++(tx " ( "++at9))).size+3:=by simp only[tf,j0,show(tx " ( ").length=3 from rfl];omega
 have z10:¬9223372036854775807 < (bs (P0++(tx " ( "++(at9++tx " , ")))).size+(bs axB).size:=by simp only[tf,j0,show(tx " ( ").length=3 from rfl,show(tx " , ").length=3 from rfl];omega
 have z11:¬9223372036854775807 < (bs (P0++(tx " ( "++(at9++(tx " , "++axB))))).size+2:=by simp only[tf,j0,show(tx " ( ").length=3 from rfl,show(tx " , ").length=3 from rfl];omega
 replace ayi:=ah ayi;replace s1:=ah s1;replace s2:=ah s2;go_wp2_with fail;refine xr [some 22,some 23,some 24,some 25,some 26,some 27,some 28,some 29,some 30,some 31,some 32,some 33,some 3] [0,1,2,3,4,5,6,7,8,9,10,11,12] (A:=?_) (λlb u V=>(Kept aK w1 V/\(lb 12=false->u 12=.string (bs P0)))/\VT [some (.string (bs (P0))),some (.string (bs (P0++tx " ( "))),some (.pointer (some ⟨w.heap.size,1,none⟩)),some (.int .i64 A),some (.string (bs (at9))),some (.string (bs (P0++(tx " ( "++at9)))),some (.string (bs (P0++(tx " ( "++(at9++tx " , "))))),some (.pointer (some ⟨w.heap.size,2,none⟩)),some (.int .i64 B),some (.string (bs (axB))),some (.string (bs (P0++(tx " ( "++(at9++(tx " , "++axB)))))),some (.string (bs (P0++(tx " ( "++(at9++(tx " , "++(axB++tx " )"))))))),some (.string (bs (P0++(tx " ( "++(at9++(tx " , "++(axB++tx " )")))))))] lb u) af af (λu=>?_) (λlb u h0 hu=>?_) ?_ (λlb u V hl hI=>?_);rotate_left
 .exact bK
 .exact⟨⟨(Kept.refl aK w1).drew,λ_=>gq (λa=>Act.eval a (.tmp 3)) hu⟩,VT.none rfl h0⟩
 .repeat' first|apply Bm.be.cons|exact Bm.be.nil
  all_goals intro lb u V K hl hn hf hI hK
  .have ex:=hI.1.2 (hf 12 af);go_simp;exact hK _ _ _ ⟨hI.1,hI.2.yes 0⟩ (by rw[ex];try rfl)
  .have e0:=hI.2 0 _ rfl (hn 0 af);go_simp;exact hK _ _ _ ⟨hI.1,hI.2.yes 1⟩ (by rw[e0];try simp only[aaK,j1.out,ax1.out,j11.out,I5];try rfl)
  .exact oq
  .have e2:=hI.2 2 _ rfl (hn 2 af);have z1:=hI.1.1.aq y1 (λe=>e);have z2:=hI.1.1.aq y2 (λe=>e);exact pv
  .have e3:=hI.2 3 _ rfl (hn 3 af);go_simp;refine bD (hA.out V) λwA KA=>?_;dsimp only;exact hK _ _ _ ⟨⟨hI.1.1.trans' KA,hI.1.2⟩,hI.2.yes 4⟩ rD
  .have e1:=hI.2 1 _ rfl (hn 1 af);have e4:=hI.2 4 _ rfl (hn 4 af);go_simp;exact hK _ _ _ ⟨hI.1,hI.2.yes 5⟩ (by rw[e1,e4];try simp only[aaK,j1.out,ax1.out,j11.out,I5];try rfl)
  .have e5:=hI.2 5 _ rfl (hn 5 af);go_simp;exact hK _ _ _ ⟨hI.1,hI.2.yes 6⟩ (by rw[e5];try simp only[aaK,j1.out,ax1.out,j11.out,I5];try rfl)
  .exact atx
  .have e7:=hI.2 7 _ rfl (hn 7 af);have z1:=hI.1.1.aq y1 (λe=>e);have z2:=hI.1.1.aq y2 (λe=>e);exact atn
  .have e8:=hI.2 8 _ rfl (hn 8 af);go_simp;refine bD (hB.out V) λwA KA=>?_;dsimp only;exact hK _ _ _ ⟨⟨hI.1.1.trans' KA,hI.1.2⟩,hI.2.yes 9⟩ om
  .have e6:=hI.2 6 _ rfl (hn 6 af);have e9:=hI.2 9 _ rfl (hn 9 af);go_simp;exact hK _ _ _ ⟨hI.1,hI.2.yes 10⟩ (by rw[e6,e9];try simp only[aaK,j1.out,ax1.out,j11.out,I5];try rfl)
  .have zv:=hI.2 10 _ rfl (hn 10 af);go_simp;exact hK _ _ _ ⟨hI.1,hI.2.yes 11⟩ (by rw[zv];try simp only[aaK,j1.out,ax1.out,j11.out,I5];try rfl)
  .have xU:=hI.2 11 _ rfl (hn 11 af);go_simp;exact hK _ _ _ ⟨⟨hI.1.1,λe=>bM⟩,hI.2.yes 12⟩ asH
 have Qz:=hI.2 12 _ rfl (hl 12 aj);obtain⟨⟨hK,-⟩,-⟩:=hI;go_wp2_with fail
 first|go_ret|(refine bG (rB rfl _ _ _) rfl ?_)
 exact⟨rfl,K1.trans' hK⟩
def axP(i:Nat):List Nat:=tx "p_"++as0 ((i:Int)+1)
def caT(x:SC):List Nat:=tx "c . "++x.1++axv (as3 x.1) x.2.1 x.2.2
def lnT(cls:Yz)(i:Nat)(x:SC):List Nat:=
 if(cls==tx "STACK"&&x.1==tx "push")=true then tx "create k . make ; k . add ( "++(as0 x.2.1++tx " ) ; c . push ( k ) ;")
 else if(cls==tx "STACK"&&x.1==tx "peek")=true then tx "if attached c . peek as "++(axP i++(tx " then put "++(axP i++tx " . count ; else put 0 ; end ;")))
 else(if avs x.1=true then tx "put " else[])++(caT x++tx " ;")
def auD(cls:Yz):Nat->List SC->List Nat
 |_,[]=>[]
 |i,x::l=>32::(lnT cls i x++auD cls (i+1) l)
def heT(cls:Yz):List Nat:=if cls=tx "STACK" then tx "class MAIN create make feature \x7b ANY \x7d make local c : STACK [ COUNTER ] ; k : COUNTER do create c . make ;" else tx "class MAIN create make feature \x7b ANY \x7d make local c : "++(cls++tx " do create c . make ;")
def as1(cls:Yz)(l:List SC):List Nat:=heT cls++(auD cls 0 l++tx " end end\n")
def auq{x:SC}(h:axL nm x=true):bW x.1/\x.1.length<=20/\avm x.2.1/\avm x.2.2/\x.1∈axs nm:=by
 unfold axL at h;split at h
 .rename_i n r e;have hm:=(asX.1 _ _ e).1;unfold axG at h;simp only[dD,wiB,oM] at h;refine⟨(avU nm).1 _ hm,?_,h.1.1.1,h.1.1.2,hm⟩;by_cases h9:nm∈at8
  .exact(by decide+kernel:∀t∈at8,∀x∈axs t,x.length<=20) nm h9 _ hm
  .unfold axs at hm;rw[at1 h9] at hm;cases hm
 .cases h
def auw{l:List SC}(h:axz nm l=0):nm∈at8/\l.length<=40/\∀x∈l,axL nm x=true:=by
 unfold axz at h;split at h
 .split at h
  .cases h
  .rename_i hz;split at h
   .cases h
   .split at h
    .rename_i ha;refine⟨?_,by omega,dV.1 ha⟩;by_cases h9:nm∈at8
     .exact h9
     .exact absurd (at1 h9) hz
    .cases h
 .cases h
def awx(n:Nat)(A B:Int):(axv n A B).length<=52:=by
 have h1:=asE A;have h2:=asE B;unfold axv;split
 .simp only[j0,show(tx " ( ").length=3 from rfl,show(tx " )").length=2 from rfl];omega
 .split
  .simp only[j0,show(tx " ( ").length=3 from rfl,show(tx " , ").length=3 from rfl,show(tx " )").length=2 from rfl];omega
  .exact dE _
def avV(x:SC)(h:x.1.length<=20):(caT x).length<=76:=by have h1:=awx (as3 x.1) x.2.1 x.2.2;unfold caT;rw[j0,j0];show 4+x.1.length+_<=76;omega
def au8(cls:Yz)(i:Nat)(x:SC)(h:x.1.length<=20):(lnT cls i x).length<=200:=by
 have h1:=avV x h;have h2:=asE x.2.1;have h3:=asE ((i:Int)+1);unfold lnT axP;split
 .simp only[j0,show(tx "create k . make ; k . add ( ").length=28 from rfl,show(tx " ) ; c . push ( k ) ;").length=21 from rfl];omega
 .split
  .simp only[j0,show(tx "if attached c . peek as ").length=24 from rfl,show(tx " then put ").length=10 from rfl,show(tx " . count ; else put 0 ; end ;").length=29 from rfl,show(tx "p_").length=2 from rfl];omega
  .simp only[j0,show(tx " ;").length=2 from rfl];split
   .simp only[show(tx "put ").length=4 from rfl];omega
   .simp only[mc];omega
def avZ(hs:bW s)(t:TC)(ht:∀c∈tx t,c < 256):((bs s).toList==(tx t).map UInt8.ofNat)=(s==tx t):=by rw[<-af0,cH hs ht]
def auQ{cls:Yz}(hm:bW cls){S:Wq}{l:List SC}(hl:auK l){a:YS}{c:Nat}{w:YC}(hx:an S w (.sl (axM l)) (sV a l.length c)):Calls prog 22 #[cls,sV a l.length c] w λe w'=>e=.returned (.agg #[.string (bs (if axz cls l=0 then as1 cls l else[])),iV (axz cls l)])/\Kept aK w w':=by
 have asJ:=λk x h=>auo (k:=k) (x:=x) hx h;have h26:=fun(V:YC) (hK:Kept aK w V)=>avt hm hl ((hx.mono (S':=λ_=>True) (λ_ _ _=>bw)).kept hK (λ_ _ _ e=>e));have hz:(w.alloc (cO #[eS,oZ] 52)).heap[w.heap.size]?=some (.cells #[eS,oZ] 52 (0,0)):=ao;have k0:=ah ((Kept.refl aK w).alloc (cO #[eS,oZ] 52));obtain⟨KL,sc⟩:∃m,l.length=m:=⟨_,rfl⟩
 obtain⟨R,hR⟩:∃m,axz cls l=m:=⟨_,rfl⟩
 rw[hR];rw[sc,hR] at h26;rw[sc];clear hx;revert hl asJ hz sc h26 hR;refine LX ?_;intro hl asJ hz sc h26 hR;by_cases h0:R=0
 .subst h0;obtain⟨h9,auL,bL⟩:=auw hR.out;rw[sc.out] at auL;rw[aI rfl];have hcS:((bs cls).toList==[83,84,65,67,75])=(cls==tx "STACK"):=avZ hm "STACK" aj;obtain⟨axt,avB⟩:∃b,(cls==tx "STACK")=b:=⟨_,rfl⟩
  rw[avB] at hcS;have hh:Hid (heT cls=if axt=true then tx "class MAIN create make feature \x7b ANY \x7d make local c : STACK [ COUNTER ] ; k : COUNTER do create c . make ;" else tx "class MAIN create make feature \x7b ANY \x7d make local c : "++(cls++tx " do create c . make ;")):=by unfold heT;exact atf
  have kc:(bs cls).size<=20:=by exact atv
  revert h9 bL;refine ct ?_;intro h9 bL;go_enter func22,ntmps22;go_wp2_with fail;refine(h26.out _ k0).mono ?_;rintro e w1 ⟨rfl,K1⟩;have d1:=ah (aJ hz.out K1);replace K1:=ah (k0.trans' K1);go_upto_region 5 with fail;go_cut [21] from 20 (λv21 wc=>v21=.bool axt/\w1=wc)
  case first=>exact asY
  obtain⟨rfl,rfl⟩:=hcut;rename_i avG;refine avG _ _ ?_;go_cut [6] from 22 (λv6 wc=>v6=.string (bs (heT cls))/\w1=wc)
  case first=>
   cases axt
   .go_wp2_with fail;go_meet
    case rel=>exact⟨by rw[hh.out];show Value.string (bs (tx "class MAIN create make feature \x7b ANY \x7d make local c : ")++bs cls++bs (tx " do create c . make ;"))=_;rw[aaK,aaK,I5];rfl,rfl⟩
   .go_wp2_with fail;go_meet
    case rel=>exact⟨by rw[hh.out];rfl,rfl⟩
  obtain⟨rfl,rfl⟩:=hcut;have hT0:Hid (heT cls++(auD cls 0 (l.drop 0)++tx " end end\n")=as1 cls l):=rfl;have he0:(heT cls).length<=200:=by
   rw[tf] at kc;rw[hh.out];split
   .decide
   .simp only[j0,show(tx "class MAIN create make feature \x7b ANY \x7d make local c : ").length=54 from rfl,show(tx " do create c . make ;").length=21 from rfl];omega
  go_wp2_with fail;go_loopg [6,7] KL (λgg s6 s7 wr=>∃(k:Nat) (o:Yz),s7=iV k/\k+gg=KL/\s6=.string (bs o)/\o.length<=200+300*k/\Hid (o++(auD cls k (l.drop k)++tx " end end\n")=as1 cls l)/\Hid (Kept aK w1 wr))
  case atStart=>exact⟨0,heT cls,rfl,by omega,rfl,he0,hT0,Kept.refl _ _⟩
  case round=>
   obtain⟨k,o,rfl,hk,rfl,ho,hT,hK⟩:=hrel;have ayp:(bs o).size=o.length:=tf o;by_cases bQ:k < KL
   .have aiu:k < l.length:=by rw[sc.out];exact bQ
    obtain⟨⟨s,A,B⟩,oY⟩:∃z,l[k]?=some z:=⟨_,ck aiu⟩
    obtain⟨hs,av1,axA,axJ,hsc⟩:=auq (bL.out _ (cm oY));obtain⟨g,off,rfl,q0,q1,q2⟩:=asJ.out k _ oY;have lH:=K1.out.trans' hK.out;replace q0:=lH.aq q0 (λe=>e);replace q1:=lH.aq q1 (λe=>e);replace q2:=lH.aq q2 (λe=>e);have xY:(k:Int) < (KL:Int):=ab;have oL:(0:Int)<=(k:Int):=ab;have axE:l.drop k=(s,A,B)::l.drop (k+1):=by rw[MN aiu,j6 ((ck aiu).symm.trans oY)]
    have hln:=au8 cls k (s,A,B) av1;obtain⟨axu,at7⟩:∃t,lnT cls k (s,A,B)=t:=⟨_,rfl⟩
    have hT2:(o++32::axu)++(auD cls (k+1) (l.drop (k+1))++tx " end end\n")=as1 cls l:=by rw[<-hT.out,axE,<-at7];simp only[auD,I5,qF]
    rw[at7] at hln;have gD:(o++32::axu).length<=200+300*(k+1):=by rw[j0,dC];omega
    dsimp only at q0 q1 q2 hs av1 axA axJ hsc;have ax7:=avZ hs "push" aj;have ax8:=avZ hs "peek" aj;have h51:=λw=>au6 axA w;have h5k:=λw=>au6 (n:=(k:Int)+1) ⟨by omega,by omega⟩ w;have h52:=λw=>aww hs w;have h53:=λw=>awi hs ab axA axJ w;have aym:=asE A;have lk:=asE ((k:Int)+1);have ax9:=avV (s,A,B) av1;unfold lnT axP at at7;rw[avB] at at7;unfold caT at at7 ax9;dsimp only at at7 ax9;obtain⟨bp,hbp⟩:∃b,(s==tx "push")=b:=⟨_,rfl⟩
    obtain⟨bk,M6⟩:∃b,(s==tx "peek")=b:=⟨_,rfl⟩
    obtain⟨aya,lW⟩:∃b,avs s=b:=⟨_,rfl⟩
    obtain⟨at9,hTA⟩:∃t,as0 A=t:=⟨_,rfl⟩
    obtain⟨axw,hTK⟩:∃t,as0 ((k:Int)+1)=t:=⟨_,rfl⟩
    obtain⟨axI,hCT⟩:∃t,tx "c . "++s++axv (as3 s) A B=t:=⟨_,rfl⟩
    rw[hbp] at at7;rw[M6,lW,hTA,hTK,hCT] at at7;have cP':((bs s).toList==[112,117,115,104])=bp:=ax7.trans hbp;have cK':((bs s).toList==[112,101,101,107])=bk:=ax8.trans M6;rw[hTA] at h51 aym;rw[hTK] at h5k lk;rw[lW] at h52;rw[hCT] at h53 ax9;have ax4:(bs at9).size=at9.length:=tf at9;have ayn:(bs axw).size=axw.length:=tf axw;have ayq:(bs axI).size=axI.length:=tf axI;clear ax7 ax8;have d8:(wr.alloc (cO #[s,.int .i64 A,.int .i64 B] 59)).heap[wr.heap.size]?=some (.cells #[s,.int .i64 A,.int .i64 B] 59 (0,0)):=ao;have k8:=(Kept.refl aK wr).alloc (cO #[s,.int .i64 A,.int .i64 B] 59);replace oY:=ah oY;replace axE:=ah axE;replace hsc:=ah hsc;replace hbp:=ah hbp;replace M6:=ah M6;replace lW:=ah lW;replace hTA:=ah hTA;replace hTK:=ah hTK;replace hCT:=ah hCT;replace lH:=ah lH;replace d8:=ah d8;replace k8:=ah k8;replace h51:=ah h51;replace h5k:=ah h5k;replace h52:=ah h52;replace h53:=ah h53;replace axA:=ah axA;replace axJ:=ah axJ;replace hs:=ah hs;replace at7:=ah at7;replace gD:=ah gD;replace hT2:=ah hT2;have key:(axt=true/\bp=true)∨(axt=true/\bp=false/\bk=true)∨((axt=false∨(axt=true/\bp=false/\bk=false))/\(aya=true∨aya=false)):=by cases axt<;>cases bp<;>cases bk<;>cases aya<;>simp
    rcases key with⟨rfl,rfl⟩|⟨rfl,rfl,rfl⟩|⟨rfl|⟨rfl,rfl,rfl⟩,rfl|rfl⟩
    .go_wp2_with fail;refine(h51.out _).mono ?_;rintro e w2 ⟨rfl,K2⟩;go_wp2_with fail;go_roundg (gk - 1)
     case measure=>omega
     case rel=>refine⟨k+1,o++32::axu,by simp,by omega,?_,gD,hT2,(hK.trans' k8).trans' K2⟩;rw[<-show tx "create k . make ; k . add ( "++(at9++tx " ) ; c . push ( k ) ;")=axu from at7.out];show Value.string (bs o++bs (tx " create k . make ; k . add ( ")++bs at9++bs (tx " ) ; c . push ( k ) ;"))=_;simp only[aaK,I5];rfl
    .go_wp2_with fail;refine(h5k.out _).mono ?_;rintro e w2 ⟨rfl,K2⟩;go_wp2_with fail;go_roundg (gk - 1)
     case measure=>omega
     case rel=>refine⟨k+1,o++32::axu,by simp,by omega,?_,gD,hT2,(hK.trans' k8).trans' K2⟩;rw[<-show tx "if attached c . peek as "++((tx "p_"++axw)++(tx " then put "++((tx "p_"++axw)++tx " . count ; else put 0 ; end ;")))=axu from at7.out];show Value.string (bs o++bs (tx " if attached c . peek as ")++(bs (tx "p_")++bs axw)++bs (tx " then put ")++(bs (tx "p_")++bs axw)++bs (tx " . count ; else put 0 ; end ;"))=_;simp only[aaK,I5];rfl
    all_goals
     go_wp2_with fail;refine(h52.out _).mono ?_;rintro e w2 ⟨rfl,K2⟩;have d9:=aJ d8.out K2;have z0:=aC d9 0;have z1:=aC d9 1;have z2:=aC d9 2;replace d9:=ah d9;go_wp2_with fail;refine(h53.out _).mono ?_;rintro e w3 ⟨rfl,K3⟩;go_wp2_with fail;go_roundg (gk - 1)
     case measure=>omega
     case rel=>
      refine⟨k+1,o++32::axu,by simp,by omega,?_,gD,hT2,((hK.trans' k8).trans' K2).trans' K3⟩
      first
       |(rw[<-show tx "put "++(axI++tx " ;")=axu from at7.out]
         show Value.string (bs o++bs (tx " put ")++bs axI++bs (tx " ;"))=_;simp only[aaK,I5];rfl)
       |(rw[<-show[]++(axI++tx " ;")=axu from at7.out]
         show Value.string (bs o++bs (tx " ")++bs axI++bs (tx " ;"))=_;simp only[aaK,I5];rfl)
   .have xY:¬(k:Int) < (KL:Int):=by omega
    have hT3:o++tx " end end\n"=as1 cls l:=by have h:=hT.out;rw[at5 asK] at h;exact h
    have d2:=aJ d1.out hK;have hj:bs o++(⟨#[32,101,110,100,32,101,110,100,10]⟩:ByteArray)=bs (as1 cls l):=by rw[<-hT3];exact aaK o (tx " end end\n")
    revert hT3 hj;refine ct ?_;intro hT3 hj;go_wp2_with (first|refine QW ?_|refine str d2 ?_);rw[hj.out];refine ou (lz _ _ _ #[.string (bs (as1 cls l)),oZ] _ _ d2) ?_;exact⟨rfl,(K1.trans' hK).trans (fH _ _ _) λb hb e=>by omega⟩
 .rw[aE h0];go_enter func22,ntmps22;go_wp2_with fail;refine(h26.out _ k0).mono ?_;rintro e w1 ⟨rfl,K1⟩;have d1:=aJ hz.out K1;replace K1:=ah (k0.trans' K1);have h0':(R !=0)=true:=agz;go_wp2_with (first|refine QW ?_|refine str d1 ?_);refine ou (lz _ _ _ #[eS,.int .i64 R] _ _ d1) ?_;exact⟨rfl,K1.trans (fH _ _ _) λb hb e=>by omega⟩
end Go.Proofs.Gm
