/- BaseDrivers. No condition. -/
import Derived.Test.YtibajhihfaggfaaGreatDoorQAU
set_option linter.all false
set_option maxRecDepth 100000
set_option maxHeartbeats 0
namespace Go.Proofs.Gm
open Go.Proofs.Tryz Go.RowKit Go.Maps Go.Proofs.Bm
variable {ks:Yz}{S:Wq}{ns:Y9}{a:YS}
def ai7:((List.range 12).all λk=>T0 60 (nC prog k)&&shK 60 (nC prog k)&&(Qf prog k).all (λw=>w.all λc=>decide (c < 256))&&!(tL prog k).contains 10&&!(Qf prog k).isEmpty)=true:=by decide+kernel
def We:((List.range 12).flatMap (LN prog)).length<=6000/\(mF prog (List.range 12)).length<=20000:=by decide+kernel
structure aq0 (k:Nat):Prop where
 jn:cf (Qf prog k)=tL prog k
 ok:∀w∈Qf prog k,axD w=true
 b:bW (tL prog k)
 n:(Qf prog k).length < 1000
 c:T0 60 (nC prog k)=true
 sh:shK 60 (nC prog k)=true
 wb:∀w∈Qf prog k,bW w
 t10:10∉tL prog k
 ne:Qf prog k≠[]
def IG{k:Nat}(hk:k < 12):aq0 k:=by have h1:=dV.1 YD k (BZ.2 hk);have h2:=dV.1 ai7 k (BZ.2 hk);simp only[dD,dU,oM,dV,xQ] at h1 h2;obtain⟨⟨⟨a1,a2⟩,a3⟩,a4⟩:=h1;obtain⟨⟨⟨⟨b1,b3⟩,b5⟩,b6⟩,b7⟩:=h2;exact⟨a1,a2,a3,a4,b1,b3,b5,λh=>(by rw[MK.2 h] at b6;cases b6),λh=>(by rw[h] at b7;cases b7)⟩
def Sel(ks:Yz):Prop:=∃p:Nat->Bool,ks=(List.range 12).filter p
def Sel.lt(h:Sel ks):∀k∈ks,k < 12:=by obtain⟨p,rfl⟩:=h;exact λk hk=>BZ.1 (Uc.1 hk).1
def zi{α:Type}(g:Nat->List α)(p:Ri):∀l:List Nat,((l.filter p).flatMap g).length<=(l.flatMap g).length
 |[]=>by simp
 |x::l=>by
  have ih:=zi g p l;by_cases h:p x=true
  .rw[List.filter_cons_of_pos h,rz,rz,j0,j0];omega
  .rw[List.filter_cons_of_neg h,rz,j0];omega
def zj(ks:Yz):mF prog ks=ks.flatMap λk=>tL prog k++[10]:=by unfold mF QC;rw[List.flatMap_map]
def Sel.len(h:Sel ks):(ks.flatMap (LN prog)).length<=6000/\(mF prog ks).length<=20000/\ks.length<=12:=by obtain⟨p,rfl⟩:=h;refine⟨cn (zi _ p _) We.1,?_,by have:=Qs p (List.range 12);simpa using this⟩;have:=We.2;rw[zj] at this|-;exact cn (zi _ p _) this
def MG:∀{ks:Yz},(∀k∈ks,k < 12)->∀N,ks.length < N->Aa 60 60 N (ks.flatMap (LN prog))=some (ks.map (nC prog))
 |[],_,N+1,_=>rfl
 |k::ks,h,N+1,hN=>by
  have hk:=h k ai;have ih:=MG (ks:=ks) (λx hx=>h x (eC _ hx)) N (by simpa using hN);have ho:=IG hk;have hr:=acg k hk (ks.flatMap (LN prog));rw[rz];unfold Aa;have cR:(LN prog k++ks.flatMap (LN prog)).isEmpty=false:=by
   unfold LN
   cases e:Qf prog k with
   |nil=>exact absurd e ho.ne
   |cons=>rfl
  rw[cR,aE ai,hr];simp only[Ae];rw[aI ho.c,ih];rfl
def Wf(h:∀k∈ks,k < 12):∀t∈ks.flatMap (LN prog),bW t.t/\shape t.t=some t.k:=by intro t ht;obtain⟨k,hk,ht⟩:=auV.1 ht;obtain⟨w,hw,rfl⟩:=dO.1 ht;have ho:=IG (h k hk);obtain⟨c,r,-,-,-,hs,-⟩:=IB (t:=[]) (.inl rfl) (ho.ok w hw);exact⟨ho.wb w hw,hs⟩
def aa1:∀{ks:Yz},(∀k∈ks,k < 12)->∃F,qQ F (mF prog ks)=some (ks.flatMap (LN prog))
 |[],_=>⟨0,rfl⟩
 |k::ks,h=>by
  obtain⟨F,hF⟩:=aa1 (ks:=ks) λx hx=>h x (eC _ hx);have ho:=IG (h k ai);refine⟨F+2*(Qf prog k).length,?_⟩;have e:mF prog (k::ks)=cf (Qf prog k)++10::mF prog ks:=by rw[zj,zj,rz,ho.jn];simp
  rw[e,VZ _ ho.ok ho.ne,hF];rfl
def ai8(h:∀k∈ks,k < 12):bW (mF prog ks):=by
 rw[zj];intro c hc;obtain⟨k,hk,hc⟩:=auV.1 hc;rcases oU.1 hc with hc|hc
 .exact(IG (h k hk)).b c hc
 .rw[JH.1 hc];omega
def amt(hs:Sel ks)(w:YC)(hE:Env w):Calls prog 34 #[(mF prog ks)] w λe w'=>∃a c,e=.returned (.tuple #[sV a ks.length c,.agg #[iV 0,iV 0],oZ])/\asL w w' (sV a ks.length c) (ks.map (nC prog))/\Kept aK w w':=by
 obtain⟨xY,oL,ij⟩:=hs.len;have e1:(ks.map (Qf prog)).map cf=ks.map (tL prog):=by rw[AY];exact Rl λk hk=>(IG (hs.lt k hk)).jn
 have e2:((ks.map (Qf prog)).flatMap λws=>ws.map tk)=ks.flatMap (LN prog):=by rw[List.flatMap_map];rfl
 have aoY:QC ((ks.map (Qf prog)).map cf)=mF prog ks:=by rw[e1];rfl
 have hT:∀w,Env w->Calls prog 164 #[(mF prog ks)] w (Ir (ks.flatMap (LN prog)) w):=λw hE=>by
  have:=afT (ks.map (Qf prog)) (λws xD x hx=>by obtain⟨k,hk,rfl⟩:=dO.1 xD;exact(IG (hs.lt k hk)).ok x hx) (λws xD=>by
   obtain⟨k,hk,rfl⟩:=dO.1 xD;have ho:=IG (hs.lt k hk);rw[ho.jn];exact⟨ho.b,ho.t10,by have:=Nc (hs.lt k hk);omega,by have:=ho.n;omega⟩) (by rw[e2];exact xY) aH (by rw[aoY];exact oL) w hE
  exact atz
 have h:=afV ae2 (F:=60) (f:=60) (N:=13) ab ab (s:=bs (mF prog ks)) hT (λw=>Ye _ (by rw[dp];omega) w) (Wf hs.lt) xY (MG hs.lt 13 ab) aH w hE;exact Kg
def aa2(hs:Sel ks)(w:YC):Calls prog 16 #[(mF prog ks)] w λe w'=>∃a c,e=.returned (.agg #[sV a ks.length c,oZ,oZ,oZ])/\asL w w' (sV a ks.length c) (ks.map (nC prog))/\Kept aK w w':=by obtain⟨xY,oL,ij⟩:=hs.len;obtain⟨F,hF⟩:=aa1 hs.lt;have h:=acs (F:=60) (f:=60) (N:=13) ab ab (mF prog ks) (ai8 hs.lt) oL hF xY (Wf hs.lt) (MG hs.lt 13 ab) aH w;exact Kg
def acB{row:Row}{ws:Y9}(hc:T0 60 row=true)(hb:afJ row)(hs:shK 60 row=true)(hw:yP 60 row=ws)(bL:∀w∈ws,axD w=true/\bW w/\w.length<=1000000)(cR:ws≠[])(h6:ws.length<=6000)(hj:(cf ws).length < 20000){F:Nat}(hF:F<=6000)(hx:Aa F 60 2 (ws.map tk)=some [row]){S:Wq}{w:YC}{a:YS}{c:Nat}(hv:an S w (.sl [row]) (sV a 1 c)):Calls prog 17 #[sV a 1 c] w λe w'=>e=.returned (.tuple #[.string (bs (cf ws++[10])),iV 0])/\Kept aK w w':=by
 obtain⟨nm,cr,fn,cl,lo,b,rfl,ho⟩:=hb;have hW:amp (awa nm cr fn cl lo b) ws:=λp v V cs hq hR=>by
  obtain⟨a2,c2,a3,c3,a4,c4,a5,c5,a6,c6,rfl,v2,v3,v4,v5,v6,-⟩:=hR.nl;have:=Ra (g:=30) (f:=60) ab hq nm fn cr cl lo b ho v2 v3 v4 v5 v6 (by rw[hw];simp;omega);rw[hw] at this;simpa using this
 have hD:=O3 (f:=60) ab hc;refine acA (cr:=strs cr) (l:=ws) ?_ ?_ (λs h=>(bL s h).2.1) h6 hj hv
 .intro S w cs hR;exact Qi (F:=F) (f:=60) (k:=60) hF ab hR hW hs hD (ws.map tk) (by rw[AY];exact(Rl (g:=id) λx _=>rfl).trans (AZ ws)) (λt ht=>by
   obtain⟨x,hx,rfl⟩:=dO.1 ht;obtain⟨h1,h2,h3⟩:=bL x hx;obtain⟨_,_,-,-,-,h4,-⟩:=IB (t:=[]) (.inl rfl) h1;exact⟨h2,h3,h4⟩) (by simpa using h6) (λe=>cR (avE.1 e)) hx
 .exact hW
def ixE(nm:Yz):Int:=if nm∈eN then 0 else 4
def ndV(nm:Yz):List (List Nat):=if nm∈eN then lh (eN.idxOf nm) else[]
def aa4{nm:Yz}{w:YC}{e:TP}{w':YC}(h:afR nm w e w'):∃a c,e=.returned (.tuple #[.slice a (ndV nm).length c,(ixE nm)])/\an w w' (.sl (strs (ndV nm))) (.slice a (ndV nm).length c)/\Kept aK w w':=by
 rcases h with⟨k,a,c,hk,hn,rfl,hv,K⟩|⟨eK,rfl,K⟩
 .obtain⟨h1,h2⟩:=Ni hk hn;unfold ndV ixE;rw[aI h2,aI h2,h1];exact⟨a,c,rfl,hv,K⟩
 .unfold ndV ixE;rw[aE eK,aE eK];exact⟨none,0,rfl,.nil,K⟩
def auX(P:T1)(ns:Y9):List Row:=if ns.length<=40/\∀s∈ns,s∈eN then(PK (mS ns)).map (nC P) else[]
def clE(ns:Y9):Int:=if 40 < ns.length then 3 else if ∀s∈ns,s∈eN then 0 else 4
def O5(A:Y9):Sel (PK A):=⟨_,rfl⟩
def amw(ns:Y9):∀r∈auX prog ns,shK 60 r=true:=λr hr=>by
 unfold auX at hr;split at hr
 .obtain⟨k,hk,rfl⟩:=dO.1 hr;exact(IG ((O5 _).lt k hk)).sh
 .cases hr
def aja{c:Nat}{w:YC}(hE:Env w)(hx:an S w (.sl (strs ns)) (sV a ns.length c))(bL:∀s∈ns,bW s)(hn:ns.length<=60):Calls prog 10 #[sV a ns.length c] w λe w'=>∃a c,e=.returned (.tuple #[.slice a (auX prog ns).length c,(clE ns)])/\asL w w' (.slice a (auX prog ns).length c) (auX prog ns)/\Kept aK w w':=by
 refine acn hx bL hn _ (λh w' hk=>?_) (λh h2 w' hk=>?_) (λh h2 w1 hk=>?_)
 .exact atr
 .exact auc
 .refine Gy ?_;intro e1 e2;refine(amt (O5 _) w1 (hE.no hk)).mono ?_;rintro e w' ⟨a2,c2,rfl,hv,K⟩;refine⟨a2,_,c2,rfl,K,λw2 jF=>⟨a2,c2,by rw[Af],?_,(hk.trans' K).trans' jF⟩⟩;rw[Af];exact(hv.kept jF (λ_ _ _ e=>e)).mono λb hb _=>cn hk.size hb
def agA{c:Nat}{w:YC}(hx:an S w (.sl (strs ns)) (sV a ns.length c))(bL:∀s∈ns,bW s)(hn:ns.length<=60):Calls prog 11 #[sV a ns.length c] w λe w'=>∃a c,e=.returned (.agg #[.slice a (auX prog ns).length c,(clE ns)])/\asL w w' (.slice a (auX prog ns).length c) (auX prog ns)/\Kept aK w w':=by
 refine YI hx bL hn _ (λh w' hk=>?_) (λh h2 w' hk=>?_) (λh h2 w1 hk bQ=>?_)
 .exact atr
 .exact auc
 .refine Gy ?_;intro e1 e2;refine(aa2 (O5 _) w1).mono ?_;rintro e w' ⟨a2,c2,rfl,hv,K⟩;refine⟨a2,_,c2,rfl,K,λw2 jF=>⟨a2,c2,by rw[Af],?_,(hk.trans' K).trans jF λb hb e=>by omega⟩⟩;rw[Af];exact(hv.kept jF dH).mono λb hb _=>cn hk.size hb
end Go.Proofs.Gm
