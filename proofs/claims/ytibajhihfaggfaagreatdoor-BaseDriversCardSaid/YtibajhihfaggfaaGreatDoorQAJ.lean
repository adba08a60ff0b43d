/- A part of the proof of BaseDrivers. No condition. -/
import Derived.Test.YtibajhihfaggfaaGreatDoorQAG
set_option linter.all false
set_option maxRecDepth 100000
set_option maxHeartbeats 8000000
namespace Go.Proofs.Gm
open Go.Proofs.Tryz
open Go.RowKit Go.Maps
open Go.Proofs.Bm
abbrev L6(V0:YC)(ge:Nat):Nat->Prop:=λb=>V0.heap.size+1 < b/\b≠ge
section
variable {C:Ctx}{V0 V V':YC}{b3 ge:Nat}{t:T}{v:YE}
def adb(h:an (rl V0) V t v)(hg:ge=V.heap.size):an (L6 V0 ge) V t v:=h.mono (λb hb hl=>⟨hb,by omega⟩)
def ac8(h:an (L6 V0 ge) V t v):an (rl V0) V t v:=h.mono (λb hb _=>hb.1)
def aei(h:an (L6 V0 ge) V t v)(hk:Kept (λb=>b=C.p∨b=b3∨b=ge) V V')(h1:C.p < b3)(h2:b3 < V0.heap.size):an (L6 V0 ge) V' t v:=h.kept hk (λb hb _ e=>by have:=hb.1;have:=hb.2;rcases e with e|e|e<;>omega)
def gC(h:an (L6 V0 ge) V t v)(hk:Kept (ch C) V V')(h1:C.p < b3)(h2:b3 < V0.heap.size):an (L6 V0 ge) V' t v:=h.kept hk (λb hb _ e=>by have:=hb.1;unfold ch at e;omega)
def A9(h:an (L6 V0 ge) V t v)(h2:b3 < V0.heap.size)(j:Nat)(u:YE):an (L6 V0 ge) (V.setCell ⟨b3,j,none⟩ u) t v:=h.kept (au _ j u) hZ
def adf(h:an (L6 V0 ge) V t v)(hk:Kept aK V V'):an (L6 V0 ge) V' t v:=h.kept hk (λ_ _ _ e=>e)
def ade{B:Nat}{k:Int}{nm:Yz}{n:Int}{kids:Zg}{a:YS}{m c:Nat}(h:an (λb=>B<=b) V (.sl kids) (sV a m c))(hB:V0.heap.size+1 < B)(hV:B<=V.heap.size):an (rl V0) (V.alloc (cO #[k,nm,n,sV a m c] 181)) (.sl [[k,nm,n,kids]]) (sV V 1 1):=by
 have h1:=(h.kept (F:=aK) ((Kept.refl _ V).alloc (cO #[k,nm,n,sV a m c] 181)) (λ_ _ _ e=>e)).mono (S':=rl V0) λb hb _=>by unfold rl;omega
 refine aW (E:=181) (fr:=(0,0)) (wd:=4) (css:=[[k,nm,n,sV a m c]]) (arr:=#[k,nm,n,sV a m c]) ?_ rfl ?_ (by unfold rl;omega) (Nat.le_refl _) cP
 .rw[heap_alloc,aI rfl]
 .exact rF
end
def Z4(C:Ctx)(b3:Nat)(r:Zi)(es tags lB body:Zg)(V0 V':YC):Prop:=∃(ea ta ia ba:YS) (em ec tm tc im ic bm bc:Nat),
 V'.heap[b3]?=some (.cells #[iV 5,eS,oZ,sV ea em ec,sV ta tm tc,sV ia im ic,sV ba bm bc,nS] 239 (0,0))/\PS C V' r/\Kept (λb=>b=C.p∨b=b3) V0 V'/\
 an V0 V' (.sl es) (sV ea em ec)/\an V0 V' (.sl tags) (sV ta tm tc)/\an V0 V' (.sl lB) (sV ia im ic)/\an V0 V' (.sl body) (sV ba bm bc)
def ah2{f:Nat}(xf:gS f)(Kz:rP f){C:Ctx}{V0:YC}{b3:Nat}{l r r1 r3 r5 r7 r8:Zi}{lB body:Zg}{x:Row}(h:PS C V0 l)(hs:V0.heap[b3]?=some (.cells Nn 239 (0,0)))(hb:C.Bd<=b3)(hi:dy f l=some (lB,r1))(lQ:aO "invariant" r1=false)(RR:cK "until" r1=some r3)(hx:cj f 0 r3=some (x,r5))(Cq:aO "variant" r5=false)(gD:cK "loop" r5=some r7)(rk:dy f r7=some (body,r8))(Pk:cK "end" r8=some r):Calls prog 308 #[pP C,.pointer b3] V0 λe w'=>e=.returned (.tuple #[])/\Z4 C b3 r [x] [] lB body V0 w':=by refine Fz ?_;intro sE S1 rf ij bC bX cU FF ak K hK w1 ia ic hvi NG P1 K1 S2 NH NI NK;revert x hx hK;change ∀x,_;refine NC ?_;intro vj S3 vk S4 uV bC bX cU dz Nx w2 P2 K2 S5 uW TW w3 P3 K3 S6 uX TX fZ FF iI K w4 xk xn xm kids xa xl xc hx yz Bf I8 qJ qK hK oP P4 K4 S7 uY hlg szg WI uZ E9 Fa yA S8 vf xg Nz S9 qL Fb Fc Fe ak;refine NU ?_;intro bC bX ak K hK pb6 cU dz fZ iI;refine bY (Ar S9.ps "variant" Cq) λw5 P5 K5=>?_;have ie:=S9.aB P5 K5;have wO:=gC qL K5 rf ij;have XO:=gN Fb K5 rf ij;have pb7:=Bm.bc ie.x1 0;go_wp2_with fail;refine bY (fj ie.ps "loop" gD) λw6 P6 K6=>?_;have ke:=ie.aB P6 K6;have Ms:=gC wO K6 rf ij;have RY:=gN XO K6 rf ij;exact JR
def ah3{f:Nat}(xf:gS f)(Kz:rP f){C:Ctx}{V0:YC}{b3:Nat}{l r r1 r3 r5 r6 r7 r8:Zi}{lB body:Zg}{x y:Row}(h:PS C V0 l)(hs:V0.heap[b3]?=some (.cells Nn 239 (0,0)))(hb:C.Bd<=b3)(hi:dy f l=some (lB,r1))(lQ:aO "invariant" r1=false)(RR:cK "until" r1=some r3)(hx:cj f 0 r3=some (x,r5))(Cq:aO "variant" r5=true)(hy:cj f 0 r5.tail=some (y,r6))(gD:cK "loop" r6=some r7)(rk:dy f r7=some (body,r8))(Pk:cK "end" r8=some r):Calls prog 308 #[pP C,.pointer b3] V0 λe w'=>e=.returned (.tuple #[])/\Z4 C b3 r [x,y] [] lB body V0 w':=by refine Fz ?_;intro sE S1 rf ij bC bX cU FF ak K hK w1 ia ic hvi NG P1 K1 S2 NH NI NK;revert x hx hK;change ∀x,_;refine NC ?_;intro vj S3 vk S4 uV bC bX cU dz Nx w2 P2 K2 S5 uW TW w3 P3 K3 S6 uX TX fZ FF iI K w4 xk xn xm kids xa xl xc hx yz Bf I8 qJ qK hK oP P4 K4 S7 uY hlg szg WI uZ E9 Fa yA S8 vf xg Nz S9 qL Fb Fc Fe ak;refine NU ?_;intro bC bX ak K hK pb6 cU dz fZ iI;refine(Ny S9.ps "variant" Cq (R:=λV V'=>akM C V0 b3 (w4.heap.size) r6 [[xk,xn,xm,kids],y] #[iV 5,eS,oZ,sV w4 1 1,nS,sV ia lB.length ic,nS,nS] V V') (λV P K=>aeg xf (S9.aB P K) rfl (ig K Fe ab) WI (gC Fc K rf ij) hy) bP).mono ?_;rintro e w5 ⟨rfl,v5,P5,K5,ea,ec,SV,hev,KV⟩;have Su:=gC qL K5 rf ij;have ie:LB C V0 b3 _ #[iV 5,eS,oZ,sV ea 2 ec,nS,sV ia lB.length ic,nS,nS] _:=SV;have wO:=aei Su KV rf ij;have pb7:=Bm.bc ie.x1 0;go_wp2_with fail;refine bY (fj ie.ps "loop" gD) λw6 P6 K6=>?_;have ke:=ie.aB P6 K6;have Ms:=gC wO K6 rf ij;have RY:=gN hev K6 rf ij;exact JR
def ah4(hV:dT){f:Nat}(I9:f<=6000)(xf:gS f)(Kz:rP f){C:Ctx}{V0:YC}{b3:Nat}{l r r1 r2 r3 r5 r7 r8:Zi}{lB body tags:Zg}{x:Row}(h:PS C V0 l)(hs:V0.heap[b3]?=some (.cells Nn 239 (0,0)))(hb:C.Bd<=b3)(hi:dy f l=some (lB,r1))(lQ:aO "invariant" r1=true)(asi:cI f r1.tail=some (tags,r2))(RR:cK "until" r2=some r3)(hx:cj f 0 r3=some (x,r5))(Cq:aO "variant" r5=false)(gD:cK "loop" r5=some r7)(rk:dy f r7=some (body,r8))(Pk:cK "end" r8=some r):Calls prog 308 #[pP C,.pointer b3] V0 λe w'=>e=.returned (.tuple #[])/\Z4 C b3 r [x] tags lB body V0 w':=by refine Fl ?_;intro sE S1 rf ij bC bX cU FF dz fZ iI w1 ia ic hvi NG P1 K1 S2 NH NI NK vj S3 vk S4 uV ak K hK;revert x hx hK;change ∀x,_;refine Kx ?_;intro bC bX Nx w2 v2 P2 K2 ta tc SI hti KI RQ S5 uW TW w3 P3 K3 S6 uX Zy TX cU FF dz fZ w4 xk xn xm kids xa xl xc hx iI yz Bf I8 qJ qK oP P4 K4 S7 uY Zz hlg szg WI uZ ZA E9 Fa yA S8 vf ZB xg Nz S9 qL Ur Fb Fc Fe uU K hK ak;refine sp ?_;refine tkT 4 ?_;refine tkT 5 ?_;refine ddT 6 λK hK=>?_;go_simp;refine hK _ _ ?_;refine sp ?_;refine dnT ?_;have pb6:=Bm.bc S9.x1 0;go_wp2_with fail;refine bY (Ar S9.ps "variant" Cq) λw5 P5 K5=>?_;have ie:=S9.aB P5 K5;have wO:=gC qL K5 rf ij;have XP:=gC Ur K5 rf ij;have XO:=gN Fb K5 rf ij;have pb7:=Bm.bc ie.x1 0;go_wp2_with fail;refine bY (fj ie.ps "loop" gD) λw6 P6 K6=>?_;have ke:=ie.aB P6 K6;have Ms:=gC wO K6 rf ij;have ac5:=gC XP K6 rf ij;have RY:=gN XO K6 rf ij;exact CN
def ah5(hV:dT){f:Nat}(I9:f<=6000)(xf:gS f)(Kz:rP f){C:Ctx}{V0:YC}{b3:Nat}{l r r1 r2 r3 r5 r6 r7 r8:Zi}{lB body tags:Zg}{x y:Row}(h:PS C V0 l)(hs:V0.heap[b3]?=some (.cells Nn 239 (0,0)))(hb:C.Bd<=b3)(hi:dy f l=some (lB,r1))(lQ:aO "invariant" r1=true)(asi:cI f r1.tail=some (tags,r2))(RR:cK "until" r2=some r3)(hx:cj f 0 r3=some (x,r5))(Cq:aO "variant" r5=true)(hy:cj f 0 r5.tail=some (y,r6))(gD:cK "loop" r6=some r7)(rk:dy f r7=some (body,r8))(Pk:cK "end" r8=some r):Calls prog 308 #[pP C,.pointer b3] V0 λe w'=>e=.returned (.tuple #[])/\Z4 C b3 r [x,y] tags lB body V0 w':=by refine Fl ?_;intro sE S1 rf ij bC bX cU FF dz fZ iI w1 ia ic hvi NG P1 K1 S2 NH NI NK vj S3 vk S4 uV ak K hK;revert x hx hK;change ∀x,_;refine Kx ?_;intro bC bX Nx w2 v2 P2 K2 ta tc SI hti KI RQ S5 uW TW w3 P3 K3 S6 uX Zy TX cU FF dz fZ w4 xk xn xm kids xa xl xc hx iI yz Bf I8 qJ qK oP P4 K4 S7 uY Zz hlg szg WI uZ ZA E9 Fa yA S8 vf ZB xg Nz S9 qL Ur Fb Fc Fe uU K hK ak;refine sp ?_;refine tkT 4 ?_;refine tkT 5 ?_;refine ddT 6 λK hK=>?_;go_simp;refine hK _ _ ?_;refine sp ?_;refine dnT ?_;have pb6:=Bm.bc S9.x1 0;go_wp2_with fail;refine(Ny S9.ps "variant" Cq (R:=λV V'=>akM C V0 b3 (w4.heap.size) r6 [[xk,xn,xm,kids],y] #[iV 5,eS,oZ,sV w4 1 1,sV ta tags.length tc,sV ia lB.length ic,nS,nS] V V') (λV P K=>aeg xf (S9.aB P K) rfl (ig K Fe ab) WI (gC Fc K rf ij) hy) bP).mono ?_;rintro e w5 ⟨rfl,v5,P5,K5,ea,ec,SV,hev,KV⟩;have Su:=gC qL K5 rf ij;have akN:=gC Ur K5 rf ij;have ie:LB C V0 b3 _ #[iV 5,eS,oZ,sV ea 2 ec,sV ta tags.length tc,sV ia lB.length ic,nS,nS] _:=SV;have wO:=aei Su KV rf ij;have XP:=aei akN KV rf ij;have pb7:=Bm.bc ie.x1 0;go_wp2_with fail;refine bY (fj ie.ps "loop" gD) λw6 P6 K6=>?_;have ke:=ie.aB P6 K6;have Ms:=gC wO K6 rf ij;have ac5:=gC XP K6 rf ij;have RY:=gN hev K6 rf ij;exact CN
def cW{α β:Type}{o:Option α}{g:α->Option β}{b:β}(h:o.bind g=some b):∃a,o=some a/\g a=some b:=aw.1 h
def ah6(hV:dT){f:Nat}(I9:f<=6000)(xf:gS f)(iha:Jm f)(Kz:rP f):XN (f+1):=by
 intro C w l r row h hp;have S0:=ah (SB.start h);replace hp:=ah hp;replace h:=ah h;go_enter func278,ntmps278;go_wp2_with fail;go_cut [4,5] (λs4 s5 wc=>apQ C w l s4 s5 wc)
 case first=>exact ahZ
 case rest=>
  replace hp:=hp.out;simp only[sZ,cF] at hp;split at hp
  .rename_i db;split at hp
   .cases hp
   rename_i hk;obtain⟨⟨nm,r1⟩,ht,hp⟩:=cW hp;obtain⟨r2,hd,hp⟩:=cW hp;obtain⟨⟨x,r3⟩,hx,hp⟩:=cW hp
   cases hp
   cases xi:((aZ l).k==1) with
   |true=>
    clear hk;obtain⟨g4,g5,x1,y1,x2,y2,rfl,rfl,S1,jG,ik⟩:=hcut;rw[eO] at db;have k5:(((aZ l.tail).k:Int)==5)=((aZ l.tail).k==5):=br;have q5:((bs (aZ l.tail).t).toList==[58,61])=((aZ l.tail).t==tx ":="):=by have hh:=cH (iY S1.sg.ps) (aV (s:=tx ":=") aj);rw[dW (bs (tx ":="))] at hh;exact hh
    obtain⟨d50,d51,-⟩:=cc ik;have d40:=bc jG 0;have k1:(((aZ l).k:Int)==1)=((aZ l).k==1):=br;simp only[dD] at db;rw[db.1] at k5;rw[db.2] at q5;rw[xi] at k1;clear db xi;have pb1:=bc S1.b1 0;go_wp2_with fail;refine S1.c (Sr S1.sg.ps ht) λw1 S2=>?_;obtain⟨arf,arh,ari,arj,ark,arl,arn,aro,-⟩:=cc S2.b3;have arp:=al S2.b3;have S3:=S2.st 0 (iV 1);have S4:=S3.st 1 (.string (bs nm));have TW:=bc S4.b1 0;go_wp2_with fail;refine S4.c (fj S4.sg.ps ":=" hd) λw2 S5=>?_;have TX:=bc S5.b1 0;go_wp2_with fail;refine(iR xf hx S5.sg.ps).mono ?_;rintro e w3 ⟨⟨v,rfl,ek,en,em,kids,ea,el,ec,rfl,rfl,hve⟩,P3,K3⟩;have S6:=S5.aB P3 K3;have xF:=wN (k:=ek) (nm:=en) (n:=em) hve S5.lt K3.size;have S7:=S6.alloc (cO #[ek,en,em,sV ea el ec] 181);obtain⟨Z5,Z6,Z7,xg,Z8,Z9,aaa,aab,-⟩:=cc S7.b3;have aac:=al S7.b3;have S8:=S7.st 3 (sV w3.heap.size 1 1);have aej:=iq xF 3 (sV w3.heap.size 1 1);obtain⟨ane,anf,ang,anh,ani,anj,ank,anl,-⟩:=cc S8.b3;have anm:=al S8.b3;obtain⟨ann,ano,anp,anq,anr,ans,ant,anu,-⟩:=cc S8.b2;have arq:=al S8.b2;go_wp2;refine bG (v:=.agg #[iV 1,nm,oZ,sV w3.heap.size 1 1,nS,nS,nS,nS]) (by simp[results,results278,go_sem,ann,ano,anp,anq,anr,ans,ant,anu];try rfl) rfl ?_;exact S8.fin (aej) (.nil) (.nil) (.nil) (.nil)
   |false=>
    have hi:aO (tx "Result") l=true:=by rw[oH,xi] at hk;simpa using hk
    clear hk;obtain⟨g4,g5,x1,y1,x2,y2,rfl,rfl,S1,jG,ik⟩:=hcut;rw[eO] at db;have k5:(((aZ l.tail).k:Int)==5)=((aZ l.tail).k==5):=br;have q5:((bs (aZ l.tail).t).toList==[58,61])=((aZ l.tail).t==tx ":="):=by have hh:=cH (iY S1.sg.ps) (aV (s:=tx ":=") aj);rw[dW (bs (tx ":="))] at hh;exact hh
    obtain⟨d50,d51,-⟩:=cc ik;have d40:=bc jG 0;have k1:(((aZ l).k:Int)==1)=((aZ l).k==1):=br;simp only[dD] at db;rw[db.1] at k5;rw[db.2] at q5;rw[xi] at k1;clear db xi;have hiR:=hi;replace hi:=ah hi;have pb1:=bc S1.b1 0;go_wp2_with fail;refine S1.c (by have:=isA S1.sg.ps "Result";rw[hiR] at this;exact this:Calls prog 94 #[pP C,.string kf] _ _) λw1 S2=>?_;have Nx:=bc S2.b1 0;go_wp2_with fail;refine S2.c (Sr S2.sg.ps ht) λw2 S3=>?_;obtain⟨anv,anw,anx,anz,anA,anB,anC,anD,-⟩:=cc S3.b3;have anE:=al S3.b3;have S4:=S3.st 0 (iV 1);have S5:=S4.st 1 (.string (bs nm));have TX:=bc S5.b1 0;go_wp2_with fail;refine S5.c (fj S5.sg.ps ":=" hd) λw3 S6=>?_;have pb5:=bc S6.b1 0;go_wp2_with fail;refine(iR xf hx S6.sg.ps).mono ?_;rintro e w4 ⟨⟨v,rfl,ek,en,em,kids,ea,el,ec,rfl,rfl,hve⟩,P4,K4⟩;have S7:=S6.aB P4 K4;have xF:=wN (k:=ek) (nm:=en) (n:=em) hve S6.lt K4.size;have S8:=S7.alloc (cO #[ek,en,em,sV ea el ec] 181);obtain⟨ane,anf,ang,anh,ani,anj,ank,anl,-⟩:=cc S8.b3;have anm:=al S8.b3;have S9:=S8.st 3 (sV w4.heap.size 1 1);have aek:=iq xF 3 (sV w4.heap.size 1 1);obtain⟨aad,aae,aaf,aag,aah,aai,aaj,aak,-⟩:=cc S9.b3;have aal:=al S9.b3;obtain⟨anF,anG,anH,anI,anJ,anK,anL,anM,-⟩:=cc S9.b2;have ars:=al S9.b2;go_wp2;refine bG (v:=.agg #[iV 1,nm,oZ,sV w4.heap.size 1 1,nS,nS,nS,nS]) (by simp[results,results278,go_sem,anF,anG,anH,anI,anJ,anK,anL,anM];try rfl) rfl ?_;exact S9.fin (aek) (.nil) (.nil) (.nil) (.nil)
  rename_i db;simp only[gI] at db;split at hp
  .rename_i hi;obtain⟨⟨nm,r1⟩,ht,hp⟩:=cW hp;obtain⟨r2,hd,hp⟩:=cW hp;obtain⟨⟨m,r3⟩,hn,hp⟩:=cW hp;obtain⟨⟨ags,r4⟩,ha,hp⟩:=cW hp
   cases hp;obtain⟨g4,g5,x1,y1,x2,y2,rfl,rfl,S1,jG,ik⟩:=hcut;rw[eO] at db;have t5:∀a,(((aZ l.tail).k:Int)==a)=(((aZ l.tail).k:Int)==a):=λ_=>rfl;have k5:(((aZ l.tail).k:Int)==5)=((aZ l.tail).k==5):=br;have q5:((bs (aZ l.tail).t).toList==[58,61])=((aZ l.tail).t==tx ":="):=by have hh:=cH (iY S1.sg.ps) (aV (s:=tx ":=") aj);rw[dW (bs (tx ":="))] at hh;exact hh
   clear t5;obtain⟨d50,d51,-⟩:=cc ik;have d40:=bc jG 0
   cases e5:((aZ l.tail).k==5)<;>cases e6:((aZ l.tail).t==tx ":=")<;>rw[e5] at db k5<;>rw[e6] at db q5<;>(first|(cases db;done)|skip)<;>clear e5 e6 db
   all_goals
    have pb1:=bc S1.b1 0;go_wp2_with fail;refine S1.c (oy S1.sg.ps "create" hi) λw1 S2=>?_;have Nx:=bc S2.b1 0;go_wp2_with fail;refine S2.c (Sr S2.sg.ps ht) λw2 S3=>?_;obtain⟨anv,anw,anx,anz,anA,anB,anC,anD,-⟩:=cc S3.b3;have anE:=al S3.b3;have S4:=S3.st 0 (iV 3);have S5:=S4.st 1 (.string (bs nm));have TX:=bc S5.b1 0;go_wp2_with fail;refine S5.c (fj S5.sg.ps "." hd) λw3 S6=>?_;have pb5:=bc S6.b1 0;go_wp2_with fail;refine S6.c (qG S6.sg.ps hn) λw4 S7=>?_;have pb6:=bc S7.b1 0;go_wp2_with fail;refine(iha C _ _ _ _ S7.sg.ps ha).mono ?_;rintro e w5 ⟨⟨aa,ac,rfl,Cq,hlen⟩,P5,K5⟩;have S8:=S7.aB P5 K5;have xF:=wN (k:=6) (nm:=m) (n:=0) Cq S7.lt K5.size;have S9:=S8.alloc (cO #[iV 6,m,oZ,sV aa ags.length ac] 181);obtain⟨aad,aae,aaf,aag,aah,aai,aaj,aak,-⟩:=cc S9.b3;have aal:=al S9.b3;have ie:=S9.st 3 (sV w5.heap.size 1 1);have UZ:=iq xF 3 (sV w5.heap.size 1 1);obtain⟨ajK,ajL,ajM,ajN,ajO,ajP,ajQ,ajR,-⟩:=cc ie.b3;have ajS:=al ie.b3;obtain⟨ajv,ajw,ajx,ajy,ajz,ajA,ajB,ajC,-⟩:=cc ie.b2;have anN:=al ie.b2;go_wp2;refine bG (v:=.agg #[iV 3,nm,oZ,sV w5.heap.size 1 1,nS,nS,nS,nS]) Hc rfl ?_;exact ie.fin (UZ) (.nil) (.nil) (.nil) (.nil)
  rename_i n0;split at hp
  .rename_i hi;obtain⟨⟨x,r1⟩,hx,hp⟩:=cW hp;obtain⟨r2,hth,hp⟩:=cW hp;obtain⟨⟨body,r3⟩,hb,hp⟩:=cW hp;clear n0;split at hp
   .rename_i he;obtain⟨⟨tp,re⟩,hel,hp⟩:=cW hp;obtain⟨r4,sU,hp⟩:=cW hp
    cases hp;have n0:aO (tx "create") l=false:=bj hi aj;obtain⟨g4,g5,x1,y1,x2,y2,rfl,rfl,S1,jG,ik⟩:=hcut;rw[eO] at db;have t5:∀a,(((aZ l.tail).k:Int)==a)=(((aZ l.tail).k:Int)==a):=λ_=>rfl;have k5:(((aZ l.tail).k:Int)==5)=((aZ l.tail).k==5):=br;have q5:((bs (aZ l.tail).t).toList==[58,61])=((aZ l.tail).t==tx ":="):=by have hh:=cH (iY S1.sg.ps) (aV (s:=tx ":=") aj);rw[dW (bs (tx ":="))] at hh;exact hh
    clear t5;obtain⟨d50,d51,-⟩:=cc ik;have d40:=Bm.bc jG 0
    cases e5:((aZ l.tail).k==5)<;>cases e6:((aZ l.tail).t==tx ":=")<;>rw[e5] at db k5<;>rw[e6] at db q5<;>(first|(cases db;done)|skip)<;>clear e5 e6 db
    all_goals
     have pb1:=Bm.bc S1.b1 0;go_wp2_with fail;refine S1.c (ew S1.sg.ps "create" n0) λw1 S2=>?_;have Nx:=Bm.bc S2.b1 0;go_wp2_with fail;refine S2.c (oy S2.sg.ps "if" hi) λw2 S3=>?_;have sE:=pC;have TW:=Bm.bc S3.b1 0;go_wp2_with fail;refine(iR xf hx S3.sg.ps).mono ?_;rintro e w3 ⟨⟨v,rfl,ek,en,em,kids,ea,el,ec,rfl,rfl,hve⟩,P3,K3⟩;have S4:=S3.aB P3 K3;have xF:=wN (k:=ek) (nm:=en) (n:=em) hve S3.lt K3.size;have S5:=S4.alloc (cO #[ek,en,em,sV ea el ec] 181);obtain⟨anO,anP,anQ,anR,anS,anT,anU,anV,-⟩:=cc S5.b3;have anW:=al S5.b3;have S6:=S5.st 0 (iV 4);have akO:=iq xF 0 (iV 4);have S7:=S6.st 3 (sV w3.heap.size 1 1);have akP:=iq akO 3 (sV w3.heap.size 1 1);have pb5:=Bm.bc S7.b1 0;go_wp2_with fail;refine bY (fj S7.sg.ps "then" hth) λw4 P4 K4=>?_;have S8:=S7.aB P4 K4;have aej:=iz akP K4 S1.pw;have pb6:=Bm.bc S8.b1 0;go_wp2_with fail;refine(Kz C _ _ _ _ S8.sg.ps hb).mono ?_;rintro e w5 ⟨⟨ba,bc,rfl,hvb,Uj⟩,P5,K5⟩;have S9:=S8.aB P5 K5;have aek:=iz aej K5 S1.pw;have rk:=je hvb S8.lt;obtain⟨aad,aae,aaf,aag,aah,aai,aaj,aak,-⟩:=cc S9.b3;have aal:=al S9.b3;have ie:=S9.st 6 (sV ba body.length bc);have UZ:=iq aek 6 (sV ba body.length bc);have ael:=iq rk 6 (sV ba body.length bc);have pb8:=Bm.bc ie.b1 0;go_wp2_with fail;refine(Ny ie.sg.ps "else" he (R:=λV V'=>ajJ C w re tp #[iV 4,eS,oZ,sV w3.heap.size 1 1,nS,nS,sV ba body.length bc,nS] V V') (λV P K=>ahY Kz (ie.aB P K) rfl hel) bP).mono ?_;rintro e w6 ⟨rfl,v6,P6,K6,la,lc,SE,hle,KE⟩;have ke:SB C w _ #[iV 4,eS,oZ,sV w3.heap.size 1 1,nS,nS,sV ba body.length bc,sV la tp.length lc] _:=SE;have aem:=aef (iz UZ K6 S1.pw) KE S1.pw;have aen:=aef (iz ael K6 S1.pw) KE S1.pw;have pb9:=Bm.bc ke.b1 0;go_wp2_with fail;refine bY (fj ke.sg.ps "end" sU) λw7 P7 K7=>?_;have jx:=ke.aB P7 K7;have On:=iz aem K7 S1.pw;have aeo:=iz aen K7 S1.pw;have anX:=iz hle K7 S1.pw;obtain⟨XQ,XR,XT,XU,XV,XW,XX,XY,-⟩:=cc jx.b3;have XZ:=al jx.b3;obtain⟨adH,adI,adJ,adK,adL,adM,adN,adO,-⟩:=cc jx.b2;have akQ:=al jx.b2;go_wp2;refine bG (v:=.agg #[iV 4,eS,oZ,sV w3.heap.size 1 1,nS,nS,sV ba body.length bc,sV la tp.length lc]) Hb rfl ?_;exact jx.fin (On) (.nil) (.nil) (aeo) (anX)
   .rename_i he;obtain⟨r4,sU,hp⟩:=cW hp
    cases hp;replace he:aO (tx "else") r3=false:=by simpa using he
    have n0:aO (tx "create") l=false:=bj hi aj;obtain⟨g4,g5,x1,y1,x2,y2,rfl,rfl,S1,jG,ik⟩:=hcut;rw[eO] at db;have t5:∀a,(((aZ l.tail).k:Int)==a)=(((aZ l.tail).k:Int)==a):=λ_=>rfl;have k5:(((aZ l.tail).k:Int)==5)=((aZ l.tail).k==5):=br;have q5:((bs (aZ l.tail).t).toList==[58,61])=((aZ l.tail).t==tx ":="):=by have hh:=cH (iY S1.sg.ps) (aV (s:=tx ":=") aj);rw[dW (bs (tx ":="))] at hh;exact hh
    clear t5;obtain⟨d50,d51,-⟩:=cc ik;have d40:=Bm.bc jG 0
    cases e5:((aZ l.tail).k==5)<;>cases e6:((aZ l.tail).t==tx ":=")<;>rw[e5] at db k5<;>rw[e6] at db q5<;>(first|(cases db;done)|skip)<;>clear e5 e6 db
    all_goals
     have pb1:=Bm.bc S1.b1 0;go_wp2_with fail;refine S1.c (ew S1.sg.ps "create" n0) λw1 S2=>?_;have Nx:=Bm.bc S2.b1 0;go_wp2_with fail;refine S2.c (oy S2.sg.ps "if" hi) λw2 S3=>?_;have sE:=pC;have TW:=Bm.bc S3.b1 0;go_wp2_with fail;refine(iR xf hx S3.sg.ps).mono ?_;rintro e w3 ⟨⟨v,rfl,ek,en,em,kids,ea,el,ec,rfl,rfl,hve⟩,P3,K3⟩;have S4:=S3.aB P3 K3;have xF:=wN (k:=ek) (nm:=en) (n:=em) hve S3.lt K3.size;have S5:=S4.alloc (cO #[ek,en,em,sV ea el ec] 181);obtain⟨anO,anP,anQ,anR,anS,anT,anU,anV,-⟩:=cc S5.b3;have anW:=al S5.b3;have S6:=S5.st 0 (iV 4);have akO:=iq xF 0 (iV 4);have S7:=S6.st 3 (sV w3.heap.size 1 1);have akP:=iq akO 3 (sV w3.heap.size 1 1);have pb5:=Bm.bc S7.b1 0;go_wp2_with fail;refine bY (fj S7.sg.ps "then" hth) λw4 P4 K4=>?_;have S8:=S7.aB P4 K4;have aej:=iz akP K4 S1.pw;have pb6:=Bm.bc S8.b1 0;go_wp2_with fail;refine(Kz C _ _ _ _ S8.sg.ps hb).mono ?_;rintro e w5 ⟨⟨ba,bc,rfl,hvb,Uj⟩,P5,K5⟩;have S9:=S8.aB P5 K5;have aek:=iz aej K5 S1.pw;have rk:=je hvb S8.lt;obtain⟨aad,aae,aaf,aag,aah,aai,aaj,aak,-⟩:=cc S9.b3;have aal:=al S9.b3;have ie:=S9.st 6 (sV ba body.length bc);have UZ:=iq aek 6 (sV ba body.length bc);have ael:=iq rk 6 (sV ba body.length bc);have pb8:=Bm.bc ie.b1 0;go_wp2_with fail;refine bY (Ar ie.sg.ps "else" he) λw6 P6 K6=>?_;have ke:=ie.aB P6 K6;have aem:=iz UZ K6 S1.pw;have aen:=iz ael K6 S1.pw;have pb9:=Bm.bc ke.b1 0;go_wp2_with fail;refine bY (fj ke.sg.ps "end" sU) λw7 P7 K7=>?_;have jx:=ke.aB P7 K7;have On:=iz aem K7 S1.pw;have aeo:=iz aen K7 S1.pw;obtain⟨XQ,XR,XT,XU,XV,XW,XX,XY,-⟩:=cc jx.b3;have XZ:=al jx.b3;obtain⟨adH,adI,adJ,adK,adL,adM,adN,adO,-⟩:=cc jx.b2;have akQ:=al jx.b2;go_wp2;refine bG (v:=.agg #[iV 4,eS,oZ,sV w3.heap.size 1 1,nS,nS,sV ba body.length bc,nS]) Hb rfl ?_;exact jx.fin (On) (.nil) (.nil) (aeo) (.nil)
  rename_i n1;split at hp
  .rename_i hi;obtain⟨⟨lB,r1⟩,aep,hp⟩:=cW hp;obtain⟨⟨tags,r2⟩,asi,hp⟩:=cW hp;obtain⟨r3,RR,hp⟩:=cW hp;obtain⟨⟨x,r5⟩,hx,hp⟩:=cW hp;obtain⟨⟨es,r6⟩,xF,hp⟩:=cW hp;obtain⟨r7,gD,hp⟩:=cW hp;obtain⟨⟨body,r8⟩,rk,hp⟩:=cW hp;obtain⟨r9,Pk,hp⟩:=cW hp
   cases hp;dsimp only at asi RR hx xF gD rk Pk;clear n0 n1
   cases lQ:aO (tx "invariant") r1 with
   |true=>
    rw[lQ,aI rfl] at asi
    cases Cq:aO (tx "variant") r5 with
    |true=>
     rw[Cq,aI rfl] at xF;obtain⟨⟨y,r6'⟩,hy,xF⟩:=cW xF
     cases xF;have n0:aO (tx "create") l=false:=bj hi aj;have n1:aO (tx "if") l=false:=bj hi aj;obtain⟨g4,g5,x1,y1,x2,y2,rfl,rfl,S1,jG,ik⟩:=hcut;rw[eO] at db;have t5:∀a,(((aZ l.tail).k:Int)==a)=(((aZ l.tail).k:Int)==a):=λ_=>rfl;have k5:(((aZ l.tail).k:Int)==5)=((aZ l.tail).k==5):=br;have q5:((bs (aZ l.tail).t).toList==[58,61])=((aZ l.tail).t==tx ":="):=by have hh:=cH (iY S1.sg.ps) (aV (s:=tx ":=") aj);rw[dW (bs (tx ":="))] at hh;exact hh
     clear t5;obtain⟨d50,d51,-⟩:=cc ik;have d40:=Bm.bc jG 0
     cases e5:((aZ l.tail).k==5)<;>cases e6:((aZ l.tail).t==tx ":=")<;>rw[e5] at db k5<;>rw[e6] at db q5<;>(first|(cases db;done)|skip)<;>clear e5 e6 db
     all_goals
      have pb1:=Bm.bc S1.b1 0;go_wp2_with fail;refine S1.c (ew S1.sg.ps "create" n0) λw1 S2=>?_;have Nx:=Bm.bc S2.b1 0;go_wp2_with fail;refine S2.c (ew S2.sg.ps "if" n1) λw2 S3=>?_;have TW:=Bm.bc S3.b1 0;go_wp2_with fail;refine S3.c (oy S3.sg.ps "from" hi) λw3 S4=>?_;have TX:=Bm.bc S4.b1 0;go_wp2_with fail;refine(ah5 hV I9 xf Kz S4.sg.ps S4.b3 qh aep lQ asi RR hx Cq hy gD rk Pk).mono ?_;rintro e w4 ⟨rfl,ea,ta,ia,ba,em,ec,tm,tc,im,ic,bm,bc,Xw,PL,KL,c1,c2,c3,c4⟩;have bQ:=S4.lt;have eo:=S4.pw;have xF:=je c1 bQ;have hti:=je c2 bQ;have Mg:=je c3 bQ;have hbo:=je c4 bQ;have X0:Kept (λk=>k=C.p∨k=w.heap.size+1+1) _ w4:=KL;have S5:SB C w _ #[iV 5,eS,oZ,sV ea em ec,sV ta tm tc,sV ia im ic,sV ba bm bc,nS] _:=⟨⟨PL,(S4.sg.kp.trans X0 (λk hk e=>e.elim (λe=>e) lI)),S4.sg.bd⟩,(X0.block _ ab ab).trans S4.b1,(X0.block _ ab ab).trans S4.b2,Xw⟩
      obtain⟨Z5,Z6,Z7,xg,Z8,Z9,aaa,aab,-⟩:=cc S5.b3;have aac:=al S5.b3;obtain⟨ZM,ZP,ZQ,ZR,ZS,ZT,ZU,ZW,-⟩:=cc S5.b2;have aeq:=al S5.b2;go_wp2;refine bG (v:=.agg #[iV 5,eS,oZ,sV ea em ec,sV ta tm tc,sV ia im ic,sV ba bm bc,nS]) pS rfl ?_;exact S5.fin (xF) (hti) (Mg) (hbo) (.nil)
    |false=>
     rw[Cq,aE ai] at xF
     cases xF;have n0:aO (tx "create") l=false:=bj hi aj;have n1:aO (tx "if") l=false:=bj hi aj;obtain⟨g4,g5,x1,y1,x2,y2,rfl,rfl,S1,jG,ik⟩:=hcut;rw[eO] at db;have t5:∀a,(((aZ l.tail).k:Int)==a)=(((aZ l.tail).k:Int)==a):=λ_=>rfl;have k5:(((aZ l.tail).k:Int)==5)=((aZ l.tail).k==5):=br;have q5:((bs (aZ l.tail).t).toList==[58,61])=((aZ l.tail).t==tx ":="):=by have hh:=cH (iY S1.sg.ps) (aV (s:=tx ":=") aj);rw[dW (bs (tx ":="))] at hh;exact hh
     clear t5;obtain⟨d50,d51,-⟩:=cc ik;have d40:=Bm.bc jG 0
     cases e5:((aZ l.tail).k==5)<;>cases e6:((aZ l.tail).t==tx ":=")<;>rw[e5] at db k5<;>rw[e6] at db q5<;>(first|(cases db;done)|skip)<;>clear e5 e6 db
     all_goals
      have pb1:=Bm.bc S1.b1 0;go_wp2_with fail;refine S1.c (ew S1.sg.ps "create" n0) λw1 S2=>?_;have Nx:=Bm.bc S2.b1 0;go_wp2_with fail;refine S2.c (ew S2.sg.ps "if" n1) λw2 S3=>?_;have TW:=Bm.bc S3.b1 0;go_wp2_with fail;refine S3.c (oy S3.sg.ps "from" hi) λw3 S4=>?_;have TX:=Bm.bc S4.b1 0;go_wp2_with fail;refine(ah4 hV I9 xf Kz S4.sg.ps S4.b3 qh aep lQ asi RR hx Cq gD rk Pk).mono ?_;rintro e w4 ⟨rfl,ea,ta,ia,ba,em,ec,tm,tc,im,ic,bm,bc,Xw,PL,KL,c1,c2,c3,c4⟩;have bQ:=S4.lt;have eo:=S4.pw;have xF:=je c1 bQ;have hti:=je c2 bQ;have Mg:=je c3 bQ;have hbo:=je c4 bQ;have X0:Kept (λk=>k=C.p∨k=w.heap.size+1+1) _ w4:=KL;have S5:SB C w _ #[iV 5,eS,oZ,sV ea em ec,sV ta tm tc,sV ia im ic,sV ba bm bc,nS] _:=⟨⟨PL,(S4.sg.kp.trans X0 (λk hk e=>e.elim (λe=>e) lI)),S4.sg.bd⟩,(X0.block _ ab ab).trans S4.b1,(X0.block _ ab ab).trans S4.b2,Xw⟩
      obtain⟨Z5,Z6,Z7,xg,Z8,Z9,aaa,aab,-⟩:=cc S5.b3;have aac:=al S5.b3;obtain⟨ZM,ZP,ZQ,ZR,ZS,ZT,ZU,ZW,-⟩:=cc S5.b2;have aeq:=al S5.b2;go_wp2;refine bG (v:=.agg #[iV 5,eS,oZ,sV ea em ec,sV ta tm tc,sV ia im ic,sV ba bm bc,nS]) pS rfl ?_;exact S5.fin (xF) (hti) (Mg) (hbo) (.nil)
   |false=>
    rw[lQ,aE ai] at asi
    cases asi
    cases Cq:aO (tx "variant") r5 with
    |true=>
     rw[Cq,aI rfl] at xF;obtain⟨⟨y,r6'⟩,hy,xF⟩:=cW xF
     cases xF;have n0:aO (tx "create") l=false:=bj hi aj;have n1:aO (tx "if") l=false:=bj hi aj;obtain⟨g4,g5,x1,y1,x2,y2,rfl,rfl,S1,jG,ik⟩:=hcut;rw[eO] at db;have t5:∀a,(((aZ l.tail).k:Int)==a)=(((aZ l.tail).k:Int)==a):=λ_=>rfl;have k5:(((aZ l.tail).k:Int)==5)=((aZ l.tail).k==5):=br;have q5:((bs (aZ l.tail).t).toList==[58,61])=((aZ l.tail).t==tx ":="):=by have hh:=cH (iY S1.sg.ps) (aV (s:=tx ":=") aj);rw[dW (bs (tx ":="))] at hh;exact hh
     clear t5;obtain⟨d50,d51,-⟩:=cc ik;have d40:=Bm.bc jG 0
     cases e5:((aZ l.tail).k==5)<;>cases e6:((aZ l.tail).t==tx ":=")<;>rw[e5] at db k5<;>rw[e6] at db q5<;>(first|(cases db;done)|skip)<;>clear e5 e6 db
     all_goals
      have pb1:=Bm.bc S1.b1 0;go_wp2_with fail;refine S1.c (ew S1.sg.ps "create" n0) λw1 S2=>?_;have Nx:=Bm.bc S2.b1 0;go_wp2_with fail;refine S2.c (ew S2.sg.ps "if" n1) λw2 S3=>?_;have TW:=Bm.bc S3.b1 0;go_wp2_with fail;refine S3.c (oy S3.sg.ps "from" hi) λw3 S4=>?_;have TX:=Bm.bc S4.b1 0;go_wp2_with fail;refine(ah3 xf Kz S4.sg.ps S4.b3 qh aep lQ RR hx Cq hy gD rk Pk).mono ?_;rintro e w4 ⟨rfl,ea,ta,ia,ba,em,ec,tm,tc,im,ic,bm,bc,Xw,PL,KL,c1,c2,c3,c4⟩;have bQ:=S4.lt;have eo:=S4.pw;have xF:=je c1 bQ;have hti:=je c2 bQ;have Mg:=je c3 bQ;have hbo:=je c4 bQ;have X0:Kept (λk=>k=C.p∨k=w.heap.size+1+1) _ w4:=KL;have S5:SB C w _ #[iV 5,eS,oZ,sV ea em ec,sV ta tm tc,sV ia im ic,sV ba bm bc,nS] _:=⟨⟨PL,(S4.sg.kp.trans X0 (λk hk e=>e.elim (λe=>e) lI)),S4.sg.bd⟩,(X0.block _ ab ab).trans S4.b1,(X0.block _ ab ab).trans S4.b2,Xw⟩
      obtain⟨Z5,Z6,Z7,xg,Z8,Z9,aaa,aab,-⟩:=cc S5.b3;have aac:=al S5.b3;obtain⟨ZM,ZP,ZQ,ZR,ZS,ZT,ZU,ZW,-⟩:=cc S5.b2;have aeq:=al S5.b2;go_wp2;refine bG (v:=.agg #[iV 5,eS,oZ,sV ea em ec,sV ta tm tc,sV ia im ic,sV ba bm bc,nS]) pS rfl ?_;exact S5.fin (xF) (hti) (Mg) (hbo) (.nil)
    |false=>
     rw[Cq,aE ai] at xF
     cases xF;have n0:aO (tx "create") l=false:=bj hi aj;have n1:aO (tx "if") l=false:=bj hi aj;obtain⟨g4,g5,x1,y1,x2,y2,rfl,rfl,S1,jG,ik⟩:=hcut;rw[eO] at db;have t5:∀a,(((aZ l.tail).k:Int)==a)=(((aZ l.tail).k:Int)==a):=λ_=>rfl;have k5:(((aZ l.tail).k:Int)==5)=((aZ l.tail).k==5):=br;have q5:((bs (aZ l.tail).t).toList==[58,61])=((aZ l.tail).t==tx ":="):=by have hh:=cH (iY S1.sg.ps) (aV (s:=tx ":=") aj);rw[dW (bs (tx ":="))] at hh;exact hh
     clear t5;obtain⟨d50,d51,-⟩:=cc ik;have d40:=Bm.bc jG 0
     cases e5:((aZ l.tail).k==5)<;>cases e6:((aZ l.tail).t==tx ":=")<;>rw[e5] at db k5<;>rw[e6] at db q5<;>(first|(cases db;done)|skip)<;>clear e5 e6 db
     all_goals
      have pb1:=Bm.bc S1.b1 0;go_wp2_with fail;refine S1.c (ew S1.sg.ps "create" n0) λw1 S2=>?_;have Nx:=Bm.bc S2.b1 0;go_wp2_with fail;refine S2.c (ew S2.sg.ps "if" n1) λw2 S3=>?_;have TW:=Bm.bc S3.b1 0;go_wp2_with fail;refine S3.c (oy S3.sg.ps "from" hi) λw3 S4=>?_;have TX:=Bm.bc S4.b1 0;go_wp2_with fail;refine(ah2 xf Kz S4.sg.ps S4.b3 qh aep lQ RR hx Cq gD rk Pk).mono ?_;rintro e w4 ⟨rfl,ea,ta,ia,ba,em,ec,tm,tc,im,ic,bm,bc,Xw,PL,KL,c1,c2,c3,c4⟩;have bQ:=S4.lt;have eo:=S4.pw;have xF:=je c1 bQ;have hti:=je c2 bQ;have Mg:=je c3 bQ;have hbo:=je c4 bQ;have X0:Kept (λk=>k=C.p∨k=w.heap.size+1+1) _ w4:=KL;have S5:SB C w _ #[iV 5,eS,oZ,sV ea em ec,sV ta tm tc,sV ia im ic,sV ba bm bc,nS] _:=⟨⟨PL,(S4.sg.kp.trans X0 (λk hk e=>e.elim (λe=>e) lI)),S4.sg.bd⟩,(X0.block _ ab ab).trans S4.b1,(X0.block _ ab ab).trans S4.b2,Xw⟩
      obtain⟨Z5,Z6,Z7,xg,Z8,Z9,aaa,aab,-⟩:=cc S5.b3;have aac:=al S5.b3;obtain⟨ZM,ZP,ZQ,ZR,ZS,ZT,ZU,ZW,-⟩:=cc S5.b2;have aeq:=al S5.b2;go_wp2;refine bG (v:=.agg #[iV 5,eS,oZ,sV ea em ec,sV ta tm tc,sV ia im ic,sV ba bm bc,nS]) pS rfl ?_;exact S5.fin (xF) (hti) (Mg) (hbo) (.nil)
  rename_i n2;split at hp
  .rename_i hi;obtain⟨⟨x,r1⟩,hx,hp⟩:=cW hp
   cases hp;clear n0 n1 n2;refine atG ?_;intro n0 n1 n2 n3 n4 n5;have n6:aO (tx "raise") l=false:=bj hi aj;obtain⟨g4,g5,x1,y1,x2,y2,rfl,rfl,S1,jG,ik⟩:=hcut;rw[eO] at db;have t5:∀a,(((aZ l.tail).k:Int)==a)=(((aZ l.tail).k:Int)==a):=λ_=>rfl;have k5:(((aZ l.tail).k:Int)==5)=((aZ l.tail).k==5):=br;have q5:((bs (aZ l.tail).t).toList==[58,61])=((aZ l.tail).t==tx ":="):=by have hh:=cH (iY S1.sg.ps) (aV (s:=tx ":=") aj);rw[dW (bs (tx ":="))] at hh;exact hh
   clear t5;obtain⟨d50,d51,-⟩:=cc ik;have d40:=bc jG 0
   cases e5:((aZ l.tail).k==5)<;>cases e6:((aZ l.tail).t==tx ":=")<;>rw[e5] at db k5<;>rw[e6] at db q5<;>(first|(cases db;done)|skip)<;>clear e5 e6 db
   all_goals
    have pb1:=bc S1.b1 0;go_wp2_with fail;refine S1.c (ew S1.sg.ps "create" n0) λw1 S2=>?_;have Nx:=bc S2.b1 0;go_wp2_with fail;refine S2.c (ew S2.sg.ps "if" n1) λw2 S3=>?_;have TW:=bc S3.b1 0;go_wp2_with fail;refine S3.c (ew S3.sg.ps "from" n2) λw3 S4=>?_;have TX:=bc S4.b1 0;go_wp2_with fail;refine S4.c (ew S4.sg.ps "check" n3) λw4 S5=>?_;have pb5:=bc S5.b1 0;go_wp2_with fail;refine S5.c (ew S5.sg.ps "separate" n4) λw5 S6=>?_;have pb6:=bc S6.b1 0;go_wp2_with fail;refine S6.c (ew S6.sg.ps "retry" n5) λw6 S7=>?_;have pb7:=bc S7.b1 0;go_wp2_with fail;refine S7.c (ew S7.sg.ps "raise" n6) λw7 S8=>?_;have pb8:=bc S8.b1 0;go_wp2_with fail;refine S8.c (oy S8.sg.ps "put" hi) λw8 S9=>?_;have pb9:=bc S9.b1 0;go_wp2_with fail;refine(iR xf hx S9.sg.ps).mono ?_;rintro e w9 ⟨⟨v,rfl,ek,en,em,kids,ea,el,ec,rfl,rfl,hve⟩,P9,K9⟩;have ie:=S9.aB P9 K9;have xF:=wN (k:=ek) (nm:=en) (n:=em) hve S9.lt K9.size;have ke:=ie.alloc (cO #[ek,en,em,sV ea el ec] 181);obtain⟨XQ,XR,XT,XU,XV,XW,XX,XY,-⟩:=cc ke.b3;have XZ:=al ke.b3;have jx:=ke.st 0 (iV 10);have On:=iq xF 0 (iV 10);have mx:=jx.st 3 (sV w9.heap.size 1 1);have aer:=iq On 3 (sV w9.heap.size 1 1);obtain⟨aes,aet,aeu,aev,aew,aex,aey,aez,-⟩:=cc mx.b3;have aeA:=al mx.b3;obtain⟨akR,akS,akT,akU,akV,akW,akX,akY,-⟩:=cc mx.b2;have apT:=al mx.b2;go_wp2;refine bG (v:=.agg #[iV 10,eS,oZ,sV w9.heap.size 1 1,nS,nS,nS,nS]) (by simp[results,results278,go_sem,akR,akS,akT,akU,akV,akW,akX,akY];try rfl) rfl ?_;exact mx.fin (aer) (.nil) (.nil) (.nil) (.nil)
  rename_i n7;split at hp
  .rename_i hi
   cases hp;clear n0 n1 n2 n7;have n0:aO (tx "create") l=false:=bj hi aj;have n1:aO (tx "if") l=false:=bj hi aj;have n2:aO (tx "from") l=false:=bj hi aj;have n3:aO (tx "check") l=false:=bj hi aj;have n4:aO (tx "separate") l=false:=bj hi aj;obtain⟨g4,g5,x1,y1,x2,y2,rfl,rfl,S1,jG,ik⟩:=hcut;rw[eO] at db;have t5:∀a,(((aZ l.tail).k:Int)==a)=(((aZ l.tail).k:Int)==a):=λ_=>rfl;have k5:(((aZ l.tail).k:Int)==5)=((aZ l.tail).k==5):=br;have q5:((bs (aZ l.tail).t).toList==[58,61])=((aZ l.tail).t==tx ":="):=by have hh:=cH (iY S1.sg.ps) (aV (s:=tx ":=") aj);rw[dW (bs (tx ":="))] at hh;exact hh
   clear t5;obtain⟨d50,d51,-⟩:=cc ik;have d40:=bc jG 0
   cases e5:((aZ l.tail).k==5)<;>cases e6:((aZ l.tail).t==tx ":=")<;>rw[e5] at db k5<;>rw[e6] at db q5<;>(first|(cases db;done)|skip)<;>clear e5 e6 db
   all_goals
    have pb1:=bc S1.b1 0;go_wp2_with fail;refine S1.c (ew S1.sg.ps "create" n0) λw1 S2=>?_;have Nx:=bc S2.b1 0;go_wp2_with fail;refine S2.c (ew S2.sg.ps "if" n1) λw2 S3=>?_;have TW:=bc S3.b1 0;go_wp2_with fail;refine S3.c (ew S3.sg.ps "from" n2) λw3 S4=>?_;have TX:=bc S4.b1 0;go_wp2_with fail;refine S4.c (ew S4.sg.ps "check" n3) λw4 S5=>?_;have pb5:=bc S5.b1 0;go_wp2_with fail;refine S5.c (ew S5.sg.ps "separate" n4) λw5 S6=>?_;have pb6:=bc S6.b1 0;go_wp2_with fail;refine S6.c (oy S6.sg.ps "retry" hi) λw6 S7=>?_;obtain⟨aad,aae,aaf,aag,aah,aai,aaj,aak,-⟩:=cc S7.b3;have aal:=al S7.b3;have S8:=S7.st 0 (iV 8);obtain⟨ajK,ajL,ajM,ajN,ajO,ajP,ajQ,ajR,-⟩:=cc S8.b3;have ajS:=al S8.b3;obtain⟨ajv,ajw,ajx,ajy,ajz,ajA,ajB,ajC,-⟩:=cc S8.b2;have anN:=al S8.b2;go_wp2;refine bG (v:=.agg #[iV 8,eS,oZ,nS,nS,nS,nS,nS]) Hc rfl ?_;exact S8.fin (.nil) (.nil) (.nil) (.nil) (.nil)
  rename_i n5;split at hp
  .rename_i hi;obtain⟨⟨tn,r1⟩,ht,hp⟩:=cW hp;dsimp only at hp;split at hp
   .cases hp
   rename_i apU
   cases hp;clear n0 n1 n2 n7 n5
   cases hl:l.tail with
   |nil=>rw[hl] at ht;cases ht
   |cons t r'=>
    rw[hl] at ht;have h1:t.k=4/\t.t=tn/\r'=r:=by
     simp only[word] at ht;split at ht
     .rename_i hk;simp at ht hk;exact⟨hk,ht⟩
     .cases ht
    obtain⟨Mb,rfl,rfl⟩:=h1;clear ht;have hdx:aZ l.tail=t:=by rw[hl];rfl
    rw[<-hdx] at apU;clear hdx;refine atG ?_;intro n0 n1 n2 n3 n4 n5;have hhd:aZ l.tail=t:=by rw[hl];rfl
    have kk4:(((aZ l.tail).k:Int)==4)=true:=by rw[hhd,Mb];rfl
    have dQ:bW (aZ l.tail).t:=iY h;have akZ:shape (aZ l.tail).t=some 4:=by rw[hhd,apR h.out hl,Mb]
    revert hl Mb hhd akZ;refine jU ?_;intro hl Mb hhd akZ;obtain⟨g4,g5,x1,y1,x2,y2,rfl,rfl,S1,jG,ik⟩:=hcut;rw[eO] at db;have t5:∀a,(((aZ l.tail).k:Int)==a)=(((aZ l.tail).k:Int)==a):=λ_=>rfl;have k5:(((aZ l.tail).k:Int)==5)=((aZ l.tail).k==5):=br;have q5:((bs (aZ l.tail).t).toList==[58,61])=((aZ l.tail).t==tx ":="):=by have hh:=cH (iY S1.sg.ps) (aV (s:=tx ":=") aj);rw[dW (bs (tx ":="))] at hh;exact hh
    clear t5;obtain⟨d50,d51,-⟩:=cc ik;have d40:=bc jG 0
    cases e5:((aZ l.tail).k==5)<;>cases e6:((aZ l.tail).t==tx ":=")<;>rw[e5] at db k5<;>rw[e6] at db q5<;>(first|(cases db;done)|skip)<;>clear e5 e6 db
    all_goals
     have pb1:=bc S1.b1 0;go_wp2_with fail;refine S1.c (ew S1.sg.ps "create" n0) λw1 S2=>?_;have Nx:=bc S2.b1 0;go_wp2_with fail;refine S2.c (ew S2.sg.ps "if" n1) λw2 S3=>?_;have TW:=bc S3.b1 0;go_wp2_with fail;refine S3.c (ew S3.sg.ps "from" n2) λw3 S4=>?_;have TX:=bc S4.b1 0;go_wp2_with fail;refine S4.c (ew S4.sg.ps "check" n3) λw4 S5=>?_;have pb5:=bc S5.b1 0;go_wp2_with fail;refine S5.c (ew S5.sg.ps "separate" n4) λw5 S6=>?_;have pb6:=bc S6.b1 0;go_wp2_with fail;refine S6.c (ew S6.sg.ps "retry" n5) λw6 S7=>?_;have pb7:=bc S7.b1 0;go_wp2_with fail;refine S7.c (oy S7.sg.ps "raise" hi) λw7 S8=>?_;obtain⟨ajK,ajL,ajM,ajN,ajO,ajP,ajQ,ajR,-⟩:=cc S8.b3;have ajS:=al S8.b3;have S9:=S8.st 0 (iV 9);have pb9:=bc S9.b1 0;go_wp2_with fail;refine(me S9.sg.ps).mono ?_;rintro e w8 ⟨x8,y8,rfl,P8,K8⟩;have ie:=S9.aB P8 K8;have ke:=ie.alloc (cO #[iV (aZ l.tail).k,(bs (aZ l.tail).t),x8,y8] 187);go_wp2_with fail;refine bD (hV _ _ dQ akZ) λw9 K9=>?_;have jx:=ke.no K9;obtain⟨XQ,XR,XT,XU,XV,XW,XX,XY,-⟩:=cc jx.b3;have XZ:=al jx.b3;have mx:=jx.st 2 (iV (num (aZ l.tail).t));have arx:=bc mx.b1 0;obtain⟨aes,aet,aeu,aev,aew,aex,aey,aez,-⟩:=cc mx.b3;have aeA:=al mx.b3;go_wp2_with fail;refine mx.c (Oc (t:=t) (r:=r') (psl mx.sg.ps hl) 4 (by have:=Mb.out;omega)) λAT qo=>?_;obtain⟨ak0,ak1,ak2,ak3,ak4,ak5,ak6,ak7,-⟩:=cc qo.b3;have ak8:=al qo.b3;obtain⟨adz,adA,adB,adC,adD,adE,adF,adG,-⟩:=cc qo.b2;have ak9:=al qo.b2;go_wp2;refine bG (v:=.agg #[iV 9,eS,(num (aZ l.tail).t),nS,nS,nS,nS,nS]) Li rfl ?_;rw[show num t.t=num (aZ l.tail).t by rw[hhd.out]];exact qo.fin (.nil) (.nil) (.nil) (.nil) (.nil)
  rename_i n6;split at hp
  .cases hp
  rename_i n34;obtain⟨⟨x,r1⟩,hx,hp⟩:=cW hp;dsimp only at hp;split at hp
  .cases hp;simp only[j5,rV,gI] at n34;obtain⟨n3,n4⟩:=n34;simp only[gI] at n0 n1 n2 n5 n6 n7;obtain⟨g4,g5,x1,y1,x2,y2,rfl,rfl,S1,jG,ik⟩:=hcut;rw[eO] at db;have t5:∀a,(((aZ l.tail).k:Int)==a)=(((aZ l.tail).k:Int)==a):=λ_=>rfl;have k5:(((aZ l.tail).k:Int)==5)=((aZ l.tail).k==5):=br;have q5:((bs (aZ l.tail).t).toList==[58,61])=((aZ l.tail).t==tx ":="):=by have hh:=cH (iY S1.sg.ps) (aV (s:=tx ":=") aj);rw[dW (bs (tx ":="))] at hh;exact hh
   clear t5;obtain⟨d50,d51,-⟩:=cc ik;have d40:=bc jG 0
   cases e5:((aZ l.tail).k==5)<;>cases e6:((aZ l.tail).t==tx ":=")<;>rw[e5] at db k5<;>rw[e6] at db q5<;>(first|(cases db;done)|skip)<;>clear e5 e6 db
   all_goals
    have pb1:=bc S1.b1 0;go_wp2_with fail;refine S1.c (ew S1.sg.ps "create" n0) λw1 S2=>?_;have Nx:=bc S2.b1 0;go_wp2_with fail;refine S2.c (ew S2.sg.ps "if" n1) λw2 S3=>?_;have TW:=bc S3.b1 0;go_wp2_with fail;refine S3.c (ew S3.sg.ps "from" n2) λw3 S4=>?_;have TX:=bc S4.b1 0;go_wp2_with fail;refine S4.c (ew S4.sg.ps "check" n3) λw4 S5=>?_;have pb5:=bc S5.b1 0;go_wp2_with fail;refine S5.c (ew S5.sg.ps "separate" n4) λw5 S6=>?_;have pb6:=bc S6.b1 0;go_wp2_with fail;refine S6.c (ew S6.sg.ps "retry" n5) λw6 S7=>?_;have pb7:=bc S7.b1 0;go_wp2_with fail;refine S7.c (ew S7.sg.ps "raise" n6) λw7 S8=>?_;have pb8:=bc S8.b1 0;go_wp2_with fail;refine S8.c (ew S8.sg.ps "put" n7) λw8 S9=>?_;have pb9:=bc S9.b1 0;have ahm:=bc S9.b1 0;go_wp2_with fail;refine(iR xf hx S9.sg.ps).mono ?_;rintro e w9 ⟨⟨v,rfl,ek,en,em,kids,ea,el,ec,rfl,rfl,hve⟩,P9,K9⟩;have ie:=S9.aB P9 K9;have xF:=wN (k:=ek) (nm:=en) (n:=em) hve S9.lt K9.size;have ke:=ie.alloc (cO #[ek,en,em,sV ea el ec] 181);obtain⟨aes,aet,aeu,aev,aew,aex,aey,aez,-⟩:=cc ke.b3;have aeA:=al ke.b3;have jx:=ke.st 0 (iV 2);have On:=iq xF 0 (iV 2);have mx:=jx.st 3 (sV w9.heap.size 1 1);have aer:=iq On 3 (sV w9.heap.size 1 1);obtain⟨ak0,ak1,ak2,ak3,ak4,ak5,ak6,ak7,-⟩:=cc mx.b3;have ak8:=al mx.b3;obtain⟨adz,adA,adB,adC,adD,adE,adF,adG,-⟩:=cc mx.b2;have ak9:=al mx.b2;go_wp2;refine bG (v:=.agg #[iV 2,eS,oZ,sV w9.heap.size 1 1,nS,nS,nS,nS]) Li rfl ?_;exact mx.fin (aer) (.nil) (.nil) (.nil) (.nil)
  .cases hp
def Zw{k':Int}{zt:Yz}{n':Int}{es' t' i' b' e':Zg}(h:k'=2->∃rest:Row,es'=[.int 6::rest]):akI (st k' zt n' es' t' i' b' e'):=by intro k nm n es tags lB body tp hr hk;simp only[st,IZ,T.int.injEq,T.str.injEq,T.sl.injEq,xO] at hr;obtain⟨rfl,rfl,rfl,rfl,_⟩:=hr;exact h hk
def U0:∀(f:Nat) (l:Zi) (row:Row) (r:Zi),sZ f l=some (row,r)->akI row
 |0,l,row,r,h=>by simp[sZ] at h
 |f+1,l,row,r,hp=>by
  simp only[sZ,cF] at hp;split at hp
  .split at hp
   .cases hp
   obtain⟨⟨nm,r1⟩,ht,hp⟩:=cW hp;obtain⟨r2,hd,hp⟩:=cW hp;obtain⟨⟨x,r3⟩,hx,hp⟩:=cW hp;exact iQ
  split at hp
  .obtain⟨⟨nm,r1⟩,ht,hp⟩:=cW hp;obtain⟨r2,hd,hp⟩:=cW hp;obtain⟨⟨m,r3⟩,hn,hp⟩:=cW hp;obtain⟨⟨ags,r4⟩,ha,hp⟩:=cW hp;exact iQ
  split at hp
  .obtain⟨⟨x,r1⟩,hx,hp⟩:=cW hp;obtain⟨r2,hth,hp⟩:=cW hp;obtain⟨⟨body,r3⟩,hb,hp⟩:=cW hp;split at hp
   .obtain⟨⟨tp,re⟩,hel,hp⟩:=cW hp;exact QH
   .exact QH
  split at hp
  .obtain⟨⟨lB,r1⟩,aep,hp⟩:=cW hp;obtain⟨⟨tags,r2⟩,asi,hp⟩:=cW hp;obtain⟨r3,RR,hp⟩:=cW hp;obtain⟨⟨x,r5⟩,hx,hp⟩:=cW hp;obtain⟨⟨es,r6⟩,xF,hp⟩:=cW hp;obtain⟨r7,gD,hp⟩:=cW hp;obtain⟨⟨body,r8⟩,rk,hp⟩:=cW hp;obtain⟨r9,Pk,hp⟩:=cW hp;exact iQ
  split at hp
  .obtain⟨⟨x,r1⟩,hx,hp⟩:=cW hp;exact iQ
  split at hp
  .exact iQ
  split at hp
  .obtain⟨⟨t,r1⟩,ht,hp⟩:=cW hp;dsimp only at hp;split at hp
   .cases hp
   exact iQ
  split at hp
  .cases hp
  obtain⟨⟨x,r1⟩,hx,hp⟩:=cW hp;dsimp only at hp;split at hp
  .rename_i g
   cases hp;refine Zw (λ_=>?_);unfold Jg at g;split at g
   .rename_i k rest;have:k=6:=dR;subst this;exact⟨rest,rfl⟩
   .cases g
  .cases hp
def Sv(hV:dT):∀F:Nat,F<=6000->∀f,f<=F->rP f/\XN f:=by
 intro F;induction F with
 |zero=>intro _ f hf;have:f=0:=ab;subst this;exact⟨λC w l r rows h hp=>by simp[dy] at hp,λC w l r row h hp=>by simp[sZ] at hp⟩
 |succ F ih=>refine vC ?_;intro hF IH hf he;obtain⟨i1,i2,i3,i4,i5⟩:=ad3 hV F ab F (aM F);exact⟨aee (λf' hf'=>(IH f' ab).2) U0 hF,ah6 hV ab i1 i5 (IH F (aM F)).1⟩
end Go.Proofs.Gm
