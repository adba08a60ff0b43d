/- A part of the proof of BaseDrivers. No condition. -/
import Derived.Test.YtibajhihfaggfaaGreatDoorQAD
set_option linter.all false
set_option maxRecDepth 100000
set_option maxHeartbeats 8000000
namespace Go.Proofs.Gm
open Go.Proofs.Tryz
open Go.RowKit Go.Maps
open Go.Proofs.Bm
variable {C:Ctx}{l l1 l2:Zi}{nm s:Yz}{rows:Y9}{n:Nat}{vv:TG}
def Z0:(prog.info? 146).map (λi=>(i.zero,i.size,i.bytes))=some (some (.agg #[oZ,eS,nS,false,false]),5,56):=by kernel_rfl
def yv(sep:Yz)(one:Nat->List aF->Option (Row×List aF))(C:Ctx)(w:YC)(F:Nat)(rows:Zg)(r:Zi)(gg:Nat)(s7:YE)(wr:YC):Prop:=
 ∃(acc:Zg) (xs:List (Row)) (f:Nat) (rc:Zi),OwnR w.heap.size w wr 146 5 s7 acc/\PS C wr rc/\Kept (ch C) w wr/\jL sep (nj sep one f) rc=some (xs,r)/\f<=F/\rows=acc++xs.map id/\f<=gg/\acc.length+f<=6000
def XK{F:Nat}{one:Nat->List aF->Option (Row×List aF)}(ho:∀(f:Nat),f < F->∀(w:YC) (l r:Zi) (x:Row),PS C w l->one f l=some (x,r)->Calls prog 229 #[pP C] w (lY C x r w)){w:YC}{l r:Zi}{rows:List (Row)}(hx:nj "," one F l=some (rows,r))(h:PS C w l)(dx:F<=6000):Calls prog 228 #[pP C,.string qu,.func (.func 229) #[pP C] #[]] w (fR C 5 (rows.map id) r w):=by
 obtain⟨i,hi,hz,cL,dY⟩:=dN Z0
 cases F with
 |zero=>cases hx
 |succ F=>
 rw[fA] at hx;obtain⟨⟨x,r1⟩,iF,h2⟩:=aw.1 hx;obtain⟨⟨xs,r2⟩,ir,h3⟩:=aw.1 h2
 cases h3;dsimp only at ir;have hw:=ah h.bd;have Ax:=ah (eP h);revert h hi hz cL dY dx iF ir;refine TR ?_;intro h hi hz cL dY dx iF ir;go_enter func228,ntmps228;go_wp2_with fail;refine(ho F (j4 F) _ _ _ _ h iF).mono ?_;rintro e w1 ⟨⟨v,rfl,k,nm,ks,vv,ss,a,m,c,rfl,rfl,hv⟩,P1,K1⟩;have rG:=K1.size;obtain⟨W,hW⟩:∃W,W=w1.alloc (cO #[k,nm,sV a m c,vv,ss] 146):=⟨_,rfl⟩
 have hO:OwnR w.heap.size w W 146 5 (sV w1 1 1) [[k,nm,ks,vv,ss]]:=by rw[hW];refine OwnR.Ry (arr:=#[k,nm,sV a m c,vv,ss]) ao rfl rfl rG ?_;exact .cons (.int _) (.cons (.str _) (.cons (hv.keep (λb hb hl=>⟨hb,by omega⟩) ai λb _ hl=>jm _ _ _ hl) (.cons (.bool _) (.cons (.bool _) .nil))))
 refine oB ?_;intro hP hK;have hrel:Hid (yv "," one C w F ([k,nm,ks,vv,ss]::xs.map id) r2 F (sV w1 1 1) W):=
  ah ⟨_,xs,F,r1,hO,hP,hK,ir.out,aM _,rfl,aM _,by have:=dx.out;simp;omega⟩
 go_wp2;rw[<-hW];replace hW:=ah hW;go_loopg [7] F (λgg s7 wr=>yv "," one C w F ([k,nm,ks,vv,ss]::xs.map id) r2 gg s7 wr)
 case atStart=>exact hrel
 case round=>
  obtain⟨acc,XD,f,rc,hO,hP,lH,hm,gT,aN,de,h6⟩:=hrel;obtain⟨a7,gy,rfl⟩:=hO.form;by_cases hc:aO "," rc=true
  .have cg:=hm;unfold jL at cg;rw[aI hc] at cg
   cases f with
   |zero=>cases cg
   |succ f=>
   revert cg;refine iX ?_;intro cg y r3 lX h4;obtain⟨⟨ys,r4⟩,rZ,h5⟩:=aw.1 h4
   cases h5;dsimp only at rZ;revert hP lH hO hc gT de h6 lX rZ aN;refine zQ ?_;intro hP lH hO hc gT de h6 lX rZ aN;go_wp2_with fail;refine bY (oy hP "," hc) λw2 P2 K2=>?_;revert y hm cg h4 lX aN P2 K2;refine FD ?_;intro P2 K2 bC bX w3 k' zt ks' asd ase a' m' c' hm cg h4 lX aN hv P3 K3 pD xD nR qp Jb jl eG lD;go_wp2_with (at_builtin;refine bu (P:=prog) underlying144 hi hz cL dY rfl ab ab rfl (.tmp 14) (.tmp 17) rfl rfl ⟨w3,0,none⟩ 1 rfl _ _ nR lD dr rfl eG qp ?_);exact EK
  .have cg:=hm;unfold jL at cg;rw[aE hc] at cg
   cases cg;simp only[gI] at hc;revert lH hO hP hc;refine jU ?_;intro lH hO hP hc;rw[xK,gp] at aN;replace aN:=ah aN;go_wp2_with fail;refine bY (ew hP "," hc) λw2 P2 K2=>?_;have qY:OwnR w.heap.size w w2 146 5 (sV a7 acc.length gy) acc:=
    hO.kept K2 cC cT
   exact xZ
def am6{f:Nat}{w:YC}{r:Zi}{bI bB:TG}(fx:∀s∈C.fs,bW s)(h:PS C w l)(hv:aO "detachable" l=vv)(h1:(if vv then l.tail else l)=l1)(hs:aO "separate" l1=false)(h2:(if false then l1.tail else l1)=l2)(hw:word 2 l2=some (nm,r))(eK:(nm==tx "NONE")=false)(oQ:C.fs.contains nm=true)(hI:(nm==tx "INTEGER")=bI)(hB:(nm==tx "BOOLEAN")=bB)(lW:aO "[" r=false):Calls prog 229 #[pP C] w (lY C [.int 4,nm,.sl [],vv,false] r w):=by
 revert fx hw eK;refine yC ?_;intro hk ht hko hw G0 eo fx eK hl w1 P1 K1 G1 jI iE gh ft js f1 bC bX cU dz G2 w2 P2 K2;have G3:=ah (G2.aB P2 K2);obtain⟨jI,iE,gh,ft,js,-⟩:=cc (G3.out.bx 1 _ rfl);have f1:=al (G3.bx 1 _ rfl);go_wp2_with fail;have G4:=ah (G3.st 1 4 (.bool false));refine(me G4.ps).mono ?_;rintro e w3 ⟨x1,y1,rfl,P3,K3⟩;rw[ht,hko];have G5:Hid (GB C w l2 [cO #[oZ,eS,nS,false,false] 146,cO #[oZ,eS,nS,vv,false] 146] (w3.alloc (cO #[iV 2,nm,x1,y1] 187))):=ah ((G4.aB P3 K3).alloc _);have b4:(w3.alloc (cO #[iV 2,nm,x1,y1] 187)).heap[w3.heap.size]?=some (.cells #[iV 2,nm,x1,y1] 187 (0,0)):=ao;have bL:bW nm:=Be;have tP:=(G4.aB P3 K3).lt;simp only[dC,mc] at tP;have q1:((bs nm).toList==[73,78,84,69,71,69,82])=(nm==tx "INTEGER"):=by have hh:=cH bL (aV (s:= "INTEGER") aj);rw[dW (bs "INTEGER")] at hh;exact hh
 have q2:((bs nm).toList==[66,79,79,76,69,65,78])=(nm==tx "BOOLEAN"):=by have hh:=cH bL (aV (s:= "BOOLEAN") aj);rw[dW (bs "BOOLEAN")] at hh;exact hh
 rw[hI] at q1;rw[hB] at q2;revert b4 bL tP;refine jk ?_;intro b4 bL tP;go_wp2_with fail;have d0:True:=bw;refine wpLive 7 (λV=>GB C w l2 [cO #[oZ,eS,nS,false,false] 146,cO #[oZ,eS,nS,vv,false] 146] V/\V.heap[w3.heap.size]?=some (.cells #[iV 2,nm,x1,y1] 187 (0,0))) (λV s=>And.intro (s.1.ps.c4) (aC s.2 1)) ?_ λFF ak=>?_
 .exact⟨G5.drew,b4⟩
 refine tkT 0 ?_;refine tkT 1 ?_;refine tkT 2 ?_;refine tkT 3 ?_;refine tkT 4 ?_;refine tkT 5 ?_;refine rdT 6 λK hK=>?_;obtain⟨s1,s2⟩:=ak;go_simp;refine(gW s1.ps.fm fx nm bL).mono ?_;rintro e w4 ⟨rfl,rfl⟩;rw[oQ];refine hK _ _ ⟨s1,s2⟩ (λak=>?_);refine sp ?_;refine ddT 7 λK hK=>?_;go_simp;refine hK _ _ ?_;refine sp ?_;refine dnT ?_;obtain⟨G6,b5⟩:=ak;replace G6:=ah G6;have e40:=aC b5 0;have e41:=aC b5 1;obtain⟨jI,iE,gh,ft,js,-⟩:=cc (G6.out.bx 1 _ rfl);have f1:=al (G6.bx 1 _ rfl);go_wp2_with fail;have QI:an (λb=>b≠C.p) ((w3.alloc (cO #[iV 2,.string (bs nm),iV x1,iV y1] 187)).alloc (cO #[.string eQ] 9)).drew (.sl (strs [tx "NONE"])) (sV (some ⟨w3.heap.size+1,0,none⟩) 1 1):=by exact tO
 refine(ov (G6.alloc (cO #[.string eQ] 9)).ps hw QI (λb e=>e) yx uT).mono ?_;rintro e w5 ⟨rfl,P5,K5⟩;have G7:Hid (GB C w r [cO #[oZ,eS,nS,false,false] 146,cO #[oZ,eS,nS,vv,false] 146] w5):=ah ((G6.alloc (cO #[.string eQ] 9)).aB P5 K5);obtain⟨jI,iE,gh,ft,js,-⟩:=cc (G7.out.bx 1 _ rfl);have f1:=al (G7.bx 1 _ rfl);go_wp2_with fail;have G8:Hid (GB C w r [cO #[oZ,eS,nS,false,false] 146,cO #[iV 4,nm,nS,vv,false] 146] _):=ah ((G7.set 1 0 rfl (iV 4)).set 1 1 rfl (.string (bs nm)));refine vz ?_;intro w6 P6 K6 G9 jI iE gh ft js f1 b0 b1 b2 b3 b4 fb;refine bG (v:=.agg #[iV 4,nm,nS,vv,false]) mU rfl ?_;exact G9.XJ .nil
def akF{f:Nat}{w:YC}{r:Zi}(fx:∀s∈C.fs,bW s)(h:PS C w l)(hv:aO "detachable" l=false)(h1:(if false then l.tail else l)=l1)(hs:aO "separate" l1=false)(h2:(if false then l1.tail else l1)=l2)(hw:word 2 l2=some (nm,r))(eK:(nm==tx "NONE")=false)(oQ:C.fs.contains nm=false)(hI:(nm==tx "INTEGER")=true)(hB:(nm==tx "BOOLEAN")=false)(lW:aO "[" r=false):Calls prog 229 #[pP C] w (lY C [.int 1,.str [],.sl [],false,false] r w):=by revert fx hw eK;refine FN ?_;intro hk ht hko hw G0 eo fx eK hl bC bX cU dz w1 P1 K1 G1;refine Fg ?_;intro bC bX cU dz fZ iI G2 w2 P2 K2 G3 yz Bf I8 qJ qK uU G4 w3 x1 y1 P3 K3 G5 q1 q2 b4 bL tP Nq d0 FF Nr Ns s1 s2 K hK b5 G6 e40 e41 jI iE gh ft js f1 Nt Nu Nv Nw QI w5 P5 K5 G7;obtain⟨jI,iE,gh,ft,js,-⟩:=cc (G7.out.bx 1 _ rfl);have f1:=al (G7.bx 1 _ rfl);go_wp2_with fail;have G8:=ah (G7.st 1 0 (iV 1));refine vz ?_;intro w6 P6 K6 G9 jI iE gh ft js f1 b0 b1 b2 b3 b4 fb;refine bG (v:=.agg #[iV 1,eS,nS,false,false]) mU rfl ?_;exact G9.XJ (nm:=[]) .nil
def akG{f:Nat}{w:YC}{r:Zi}(fx:∀s∈C.fs,bW s)(h:PS C w l)(hv:aO "detachable" l=false)(h1:(if false then l.tail else l)=l1)(hs:aO "separate" l1=false)(h2:(if false then l1.tail else l1)=l2)(hw:word 2 l2=some (nm,r))(eK:(nm==tx "NONE")=false)(oQ:C.fs.contains nm=false)(hI:(nm==tx "INTEGER")=false)(hB:(nm==tx "BOOLEAN")=true)(lW:aO "[" r=false):Calls prog 229 #[pP C] w (lY C [.int 2,.str [],.sl [],false,false] r w):=by revert fx hw eK;refine FN ?_;intro hk ht hko hw G0 eo fx eK hl bC bX cU dz w1 P1 K1 G1;refine Fg ?_;intro bC bX cU dz fZ iI G2 w2 P2 K2 G3 yz Bf I8 qJ qK uU G4 w3 x1 y1 P3 K3 G5 q1 q2 b4 bL tP Nq d0 FF Nr Ns s1 s2 K hK b5 G6 e40 e41 jI iE gh ft js f1 Nt Nu Nv Nw QI w5 P5 K5 G7;obtain⟨jI,iE,gh,ft,js,-⟩:=cc (G7.out.bx 1 _ rfl);have f1:=al (G7.bx 1 _ rfl);go_wp2_with fail;have G8:=ah (G7.st 1 0 (iV 2));refine vz ?_;intro w6 P6 K6 G9 jI iE gh ft js f1 b0 b1 b2 b3 b4 fb;refine bG (v:=.agg #[iV 2,eS,nS,false,false]) mU rfl ?_;exact G9.XJ (nm:=[]) .nil
def am7{f:Nat}{w:YC}{r:Zi}{ss:TG}(fx:∀s∈C.fs,bW s)(h:PS C w l)(hv:aO "detachable" l=vv)(h1:(if vv then l.tail else l)=l1)(hs:aO "separate" l1=ss)(h2:(if ss then l1.tail else l1)=l2)(hw:word 2 l2=some (nm,r))(eK:(nm==tx "NONE")=false)(oQ:C.fs.contains nm=false)(hI:(nm==tx "INTEGER")=false)(hB:(nm==tx "BOOLEAN")=false)(lW:aO "[" r=false):Calls prog 229 #[pP C] w (lY C [.int 3,nm,.sl [],vv,ss] r w):=by revert fx hw eK;refine yC ?_;intro hk ht hko hw G0 eo fx eK hl w1 P1 K1 G1 jI iE gh ft js f1 bC bX cU dz G2 w2 P2 K2;refine E8 ?_;intro G3 bC bX cU dz fZ iI G4 w3 x1 y1 P3 K3 G5 q1 q2 b4 bL tP yz d0 FF Bf I8 s1 s2 K hK b5 G6 e40 e41 qJ qK uU Nq Nr Ns QI w5 P5 K5 G7 jI iE gh ft js f1 Nt Nu Nv Nw Xm Xn G8 w6 P6 K6 G9;obtain⟨jI,iE,gh,ft,js,-⟩:=cc (G9.out.bx 1 _ rfl);have f1:=al (G9.bx 1 _ rfl);obtain⟨b0,b1,b2,b3,b4,-⟩:=cc (W:=w6) (b:=w) (G9.out.bx 0 _ rfl);have fb:∀j,w6.frozen? ⟨w,j,none⟩=false:=al (G9.bx 0 _ rfl);go_wp2;refine bG (v:=.agg #[iV 3,nm,nS,vv,ss]) mU rfl ?_;exact G9.XJ .nil
def am8{f:Nat}(ihf:∀(C:Ctx) (w:YC) (l r:Zi) (rows:Zg),(∀s∈C.fs,bW s)->PS C w l->Jf (mj C.fs f) f l=some (rows,r)->Calls prog 228 #[pP C,.string qu,.func (.func 229) #[pP C] #[]] w (fR C 5 rows r w)){C:Ctx}{w:YC}{l l1 l2 r r2 r3:Zi}{xs:Zg}{nm:Yz}{vv ss:TG}(fx:∀s∈C.fs,bW s)(h:PS C w l)(hv:aO "detachable" l=vv)(h1:(if vv then l.tail else l)=l1)(hs:aO "separate" l1=ss)(h2:(if ss then l1.tail else l1)=l2)(hw:word 2 l2=some (nm,r))(eK:(nm==tx "NONE")=false)(oQ:C.fs.contains nm=false)(hI:(nm==tx "INTEGER")=false)(hB:(nm==tx "BOOLEAN")=false)(lW:aO "[" r=true) (Ic:Jf (mj C.fs f) f r.tail=some (xs,r2)) (kc:cK "]" r2=some r3):Calls prog 229 #[pP C] w (lY C [.int 3,nm,xs,vv,ss] r3 w):=by
 revert fx hw eK;refine yC ?_;intro hk ht hko hw G0 eo fx eK hl w1 P1 K1 G1 jI iE gh ft js f1 bC bX cU dz G2 w2 P2 K2;refine E8 ?_;intro G3 bC bX cU dz fZ iI G4 w3 x1 y1 P3 K3 G5 q1 q2 b4 bL tP yz d0 FF Bf I8 s1 s2 K hK b5 G6 e40 e41 qJ qK uU Nq Nr Ns QI w5 P5 K5 G7 jI iE gh ft js f1 Nt Nu Nv Nw Xm Xn G8 w6 P6 K6 G9;obtain⟨tk,rt,hrt⟩:=Ob lW;have akH:r.tail=rt:=by rw[hrt];rfl
 rw[akH] at Ic;obtain⟨n,e1,_,asf⟩:=G9.out.ps.c1;have ash:=G9.ps.fr 1;have tj:=G9.ps.len;have hn:(n:Int)<=10000:=ab;have nz:(0:Int)<=n:=ab;have PU:=G9.out;rw[hrt] at PU e1;replace PU:=ah (PU.TT e1 rfl);revert kc Ic;refine ct ?_;intro kc Ic;obtain⟨jI,iE,gh,ft,js,-⟩:=cc (G9.out.bx 1 _ rfl);have f1:=al (G9.bx 1 _ rfl);go_wp2_with fail;refine(ihf C _ _ _ _ fx PU.ps Ic).mono ?_;rintro e w7 ⟨⟨xa,xc,rfl,hxv,hxl⟩,P7,K7⟩;have Ol:=ah (PU.aB P7 K7);have hv0:=lU (w:=w) (n:=2) hxv (by have:=PU.lt;simpa using this);replace hv0:=ah hv0;obtain⟨jI,iE,gh,ft,js,-⟩:=cc (Ol.out.bx 1 _ rfl);have f1:=al (Ol.bx 1 _ rfl);go_wp2_with fail;have G12:=ah (Ol.st 1 2 (sV xa xs.length xc));replace hv0:=ah (qR (i:=1) hv0 aj 2 (sV xa xs.length xc));refine(fj G12.ps "]" kc).mono ?_;rintro e w8 ⟨rfl,P8,K8⟩;have G13:=ah (G12.aB P8 K8);replace hv0:=ah (abC hv0.out K8 G13.out.pw);obtain⟨jI,iE,gh,ft,js,-⟩:=cc (G13.out.bx 1 _ rfl);have f1:=al (G13.bx 1 _ rfl);obtain⟨b0,b1,b2,b3,b4,-⟩:=cc (W:=w8) (b:=w) (G13.out.bx 0 _ rfl);have fb:∀j,w8.frozen? ⟨w,j,none⟩=false:=al (G13.bx 0 _ rfl);go_wp2;refine bG (v:=.agg #[iV 3,nm,sV xa xs.length xc,vv,ss]) mU rfl ?_;exact G13.XJ hv0
def QO:(prog.info? 9).map (λi=>(i.zero,i.size,i.bytes))=some (some (.string ⟨#[]⟩),1,16):=by kernel_rfl
def EO(sep:Yz)(one:Nat->List aF->Option (List Nat×List aF))(C:Ctx)(w:YC)(F:Nat)(rows:Zg)(r:Zi)(gg:Nat)(s7:YE)(wr:YC):Prop:=
 ∃(acc:Zg) (xs:Y9) (f:Nat) (rc:Zi),OwnR w.heap.size w wr 9 1 s7 acc/\PS C wr rc/\Kept (ch C) w wr/\jL sep (nj sep one f) rc=some (xs,r)/\f<=F/\rows=acc++xs.map zT/\f<=gg/\acc.length+f<=6000
def XL{F:Nat}{one:Nat->List aF->Option (List Nat×List aF)}(ho:∀(f:Nat),f < F->∀(w:YC) (l r:Zi) (x:Yz),PS C w l->one f l=some (x,r)->Calls prog 236 #[pP C] w (λe w'=>e=.returned (.string (bs x))/\PS C w' r/\Kept (ch C) w w')){w:YC}{l r:Zi}{rows:Y9}(hx:nj "," one F l=some (rows,r))(h:PS C w l)(dx:F<=6000):Calls prog 180 #[pP C,.string qu,.func (.func 236) #[pP C] #[]] w (fR C 1 (rows.map zT) r w):=by
 obtain⟨i,hi,hz,cL,dY⟩:=dN QO
 cases F with
 |zero=>cases hx
 |succ F=>
 rw[fA] at hx;obtain⟨⟨x,r1⟩,iF,h2⟩:=aw.1 hx;obtain⟨⟨xs,r2⟩,ir,h3⟩:=aw.1 h2
 cases h3;dsimp only at ir;have hw:=ah h.bd;have Ax:=ah (eP h);revert h hi hz cL dY dx iF ir;refine TR ?_;intro h hi hz cL dY dx iF ir;go_enter func180,ntmps180;go_wp2_with fail;refine bY (ho F (j4 F) _ _ _ _ h iF) λw1 P1 K1=>?_;have rG:=K1.size;obtain⟨W,hW⟩:∃W,W=w1.alloc (cO #[x] 9):=⟨_,rfl⟩
 have hO:OwnR w.heap.size w W 9 1 (sV w1 1 1) [[x]]:=by exact Dx
 have hP:PS C W r1:=pI;have hK:Kept (ch C) w W:=FV;revert hW;refine Gv ?_;intro hrel bC bX hW;go_loopg [7] F (λgg s7 wr=>EO "," one C w F ([x]::xs.map zT) r2 gg s7 wr)
 case atStart=>exact hrel
 case round=>
  obtain⟨acc,XD,f,rc,hO,hP,lH,hm,gT,aN,de,h6⟩:=hrel;obtain⟨a7,gy,rfl⟩:=hO.form;by_cases hc:aO "," rc=true
  .have cg:=hm;unfold jL at cg;rw[aI hc] at cg
   cases f with
   |zero=>cases cg
   |succ f=>
   revert cg;refine iX ?_;intro cg y r3 lX h4;obtain⟨⟨ys,r4⟩,rZ,h5⟩:=aw.1 h4
   cases h5;revert hP lH hO hc gT de h6 lX rZ aN;refine Fu ?_;intro hP lH hO hc gT de h6 lX rZ aN w2 P2 K2 w3 P3 K3 pD xD nR qp Jb jl eG lD;exact EM
  .exact ER
def Bu(sep:Yz)(one:Nat->List aF->Option (List Nat×List aF))(C:Ctx)(w:YC)(F:Nat)(rows:Zg)(r:Zi)(gg:Nat)(s7:YE)(wr:YC):Prop:=
 ∃(acc:Zg) (xs:Y9) (f:Nat) (rc:Zi),OwnR w.heap.size w wr 9 1 s7 acc/\PS C wr rc/\Kept (ch C) w wr/\jL sep (nj sep one f) rc=some (xs,r)/\f<=F/\rows=acc++xs.map zT/\f<=gg/\acc.length+f<=6000
def Sm{F:Nat}{one:Nat->List aF->Option (List Nat×List aF)}(ho:∀(f:Nat),f < F->∀(w:YC) (l r:Zi) (x:Yz),PS C w l->one f l=some (x,r)->Calls prog 181 #[pP C] w (λe w'=>e=.returned (.string (bs x))/\PS C w' r/\Kept (ch C) w w')){w:YC}{l r:Zi}{rows:Y9}(hx:nj "," one F l=some (rows,r))(h:PS C w l)(dx:F<=6000):Calls prog 180 #[pP C,.string qu,.func (.func 181) #[pP C] #[]] w (fR C 1 (rows.map zT) r w):=by
 obtain⟨i,hi,hz,cL,dY⟩:=dN QO
 cases F with
 |zero=>cases hx
 |succ F=>
 rw[fA] at hx;obtain⟨⟨x,r1⟩,iF,h2⟩:=aw.1 hx;obtain⟨⟨xs,r2⟩,ir,h3⟩:=aw.1 h2
 cases h3;dsimp only at ir;have hw:=ah h.bd;have Ax:=ah (eP h);revert h hi hz cL dY dx iF ir;refine TR ?_;intro h hi hz cL dY dx iF ir;go_enter func180,ntmps180;go_wp2_with fail;refine bY (ho F (j4 F) _ _ _ _ h iF) λw1 P1 K1=>?_;have rG:=K1.size;obtain⟨W,hW⟩:∃W,W=w1.alloc (cO #[x] 9):=⟨_,rfl⟩
 have hO:OwnR w.heap.size w W 9 1 (sV w1 1 1) [[x]]:=by exact Dx
 have hP:PS C W r1:=pI;have hK:Kept (ch C) w W:=FV;have hrel:Hid (Bu "," one C w F ([x]::xs.map zT) r2 F (sV w1 1 1) W):=
  ah ⟨_,xs,F,r1,hO,hP,hK,ir.out,aM _,rfl,aM _,by have:=dx.out;simp;omega⟩
 go_wp2;rw[<-hW];replace hW:=ah hW;go_loopg [7] F (λgg s7 wr=>Bu "," one C w F ([x]::xs.map zT) r2 gg s7 wr)
 case atStart=>exact hrel
 case round=>
  obtain⟨acc,XD,f,rc,hO,hP,lH,hm,gT,aN,de,h6⟩:=hrel;obtain⟨a7,gy,rfl⟩:=hO.form;by_cases hc:aO "," rc=true
  .have cg:=hm;unfold jL at cg;rw[aI hc] at cg
   cases f with
   |zero=>cases cg
   |succ f=>
   revert cg;refine iX ?_;intro cg y r3 lX h4;obtain⟨⟨ys,r4⟩,rZ,h5⟩:=aw.1 h4
   cases h5;revert hP lH hO hc gT de h6 lX rZ aN;refine Fu ?_;intro hP lH hO hc gT de h6 lX rZ aN w2 P2 K2 w3 P3 K3 pD xD nR qp Jb jl eG lD;refine kC ?_;intro v' W' iH lE aL Uq yu;have hrel:Hid (Bu "," one C w F ([x]::xs.map zT) r4 f v' W'):=
    ah ⟨_,ys,f,r3,iH,Uq,yu,rZ.out,by have:=gT.out;omega,by rw[aN.out];simp[zT],aM _,by have:=h6.out;simp;omega⟩
   exact fK
  .exact ER
def Mr{w:YC}{r:Zi}(h:PS C w l)(hx:word 1 l=some (s,r)):
  Calls prog 236 #[pP C] w λe w'=>e=.returned (.string (bs s))/\PS C w' r/\Kept (ch C) w w':=qG h hx
def abE{w:YC}{r:Zi}(h:PS C w l)(hx:word 2 l=some (s,r)):Calls prog 181 #[pP C] w λe w'=>e=.returned (.string (bs s))/\PS C w' r/\Kept (ch C) w w':=by revert h hx;refine ct ?_;intro h hx;go_enter func181,ntmps181;go_wp2_with fail;refine bY (ov (S:=λb=>b≠C.p) (fs:=[]) h hx .nil (λb e=>e) ai rfl) λw1 P K=>?_;revert P K;refine ct ?_;intro P K;go_wp2;go_ret;exact⟨rfl,P,K⟩
def ad5{F:Nat}{w:YC}{r:Zi}(hx:fB 1 F l=some (rows,r))(h:PS C w l)(dx:F<=6000):Calls prog 180 #[pP C,.string qu,.func (.func 236) #[pP C] #[]] w (fR C 1 (strs rows) r w):=by rw[Bt] at hx;rw[<-Oj];exact XL (λf _ w l r x h hx=>Mr h hx) hx h dx
def XM{F:Nat}{w:YC}{r:Zi}(hx:fB 2 F l=some (rows,r))(h:PS C w l)(dx:F<=6000):Calls prog 180 #[pP C,.string qu,.func (.func 181) #[pP C] #[]] w (fR C 1 (strs rows) r w):=by rw[Bt] at hx;rw[<-Oj];exact Sm (λf _ w l r x h hx=>abE h hx) hx h dx
def UY{F:Nat}{w:YC}{r:Zi}(hx:fB 1 F l=some (rows,r))(h:PS C w l)(dx:F<=6000):Calls prog 179 #[pP C] w (fR C 1 (strs rows) r w):=by revert hx h dx;refine jk ?_;intro hx h dx;go_enter func179,ntmps179;go_wp2_with fail;refine(ad5 hx h dx).mono ?_;rintro e w1 ⟨⟨a,c,rfl,hv,hl⟩,P,K⟩;revert hv hl P K;refine jU ?_;intro hv hl P K;go_wp2;go_ret;exact⟨⟨a,c,rfl,hv,hl⟩,P,K⟩
def Z1:∀f:Nat,f<=6000->akE f:=by
 intro f;induction f with
 |zero=>intro _ C w l r row _ _ h;cases h
 |succ f ih=>
  intro I9 C w l r row fx h hx;simp only[mj] at hx;generalize hv:aO "detachable" l=vv at hx;generalize h1:(if vv=true then l.tail else l)=l1 at hx;generalize hs:aO "separate" l1=ss at hx;generalize h2:(if ss=true then l1.tail else l1)=l2 at hx;obtain⟨⟨nm,r1⟩,hw,hx⟩:=aw.1 hx;simp only at hx
  cases eK:nm==tx "NONE" with
  |true=>rw[eK] at hx;simp at hx
  |false=>
  rw[eK] at hx;have am9:(nm==tx "INTEGER")=true->(nm==tx "BOOLEAN")=false:=by intro e;rw[dU] at e;rw[e];decide
  cases oQ:C.fs.contains nm with
  |true=>
   rw[oQ] at hx
   cases ss with
   |true=>simp at hx
   |false=>
    cases lW:aO "[" r1 with
    |true=>rw[lW] at hx;simp at hx
    |false=>rw[lW] at hx;simp at hx;obtain⟨e1,e2⟩:=hx;subst e1;subst e2;exact am6 (f:=0) fx h hv h1 hs h2 hw eK oQ rfl rfl lW
  |false=>
   rw[oQ] at hx
   cases hI:nm==tx "INTEGER" with
   |true=>
    have hB:=am9 hI;rw[hI,hB] at hx
    cases vv with
    |true=>simp at hx
    |false=>
    cases ss with
    |true=>simp at hx
    |false=>
    cases lW:aO "[" r1 with
    |true=>rw[lW] at hx;simp at hx
    |false=>rw[lW] at hx;simp at hx;obtain⟨e1,e2⟩:=hx;subst e1;subst e2;exact akF (f:=0) fx h hv h1 hs h2 hw eK oQ hI hB lW
   |false=>
    cases hB:nm==tx "BOOLEAN" with
    |true=>
     rw[hI,hB] at hx
     cases vv with
     |true=>simp at hx
     |false=>
     cases ss with
     |true=>simp at hx
     |false=>
     cases lW:aO "[" r1 with
     |true=>rw[lW] at hx;simp at hx
     |false=>rw[lW] at hx;simp at hx;obtain⟨e1,e2⟩:=hx;subst e1;subst e2;exact akG (f:=0) fx h hv h1 hs h2 hw eK oQ hI hB lW
    |false=>
     rw[hI,hB] at hx
     cases lW:aO "[" r1 with
     |false=>rw[lW] at hx;simp at hx;obtain⟨e1,e2⟩:=hx;subst e1;subst e2;exact am7 (f:=0) fx h hv h1 hs h2 hw eK oQ hI hB lW
     |true=>
      rw[lW] at hx;simp only[Ro,Bool.not_false,Bool.or_self,A3,rW,qE,xN,auU] at hx;obtain⟨⟨xs,r2⟩,Ic,hx⟩:=aw.1 hx;obtain⟨r3,kc,hx⟩:=aw.1 hx
      cases hx;refine am8 (f:=f) (λC w l r rows fx h hx=>?_) fx h hv h1 hs h2 hw eK oQ hI hB lW Ic kc;rw[Ok] at hx;have:=XK (one:=λ_=>mj C.fs f) (λ_ _ w l r x h hx=>ih ab C w l r x fx h hx) hx h ab;rwa[AZ] at this
def apO(S:Wq)(w:YC)(row:Row)(v:YE):Prop:=
 ∃(vn:Yz) (k:Int) (nm:Yz) (xs:Zg) (vv ss:TG) (a:YS) (m c:Nat),row=[.str vn,.int k,.str nm,.sl xs,.bool vv,.bool ss]/\v=.agg #[vn,k,nm,sV a m c,vv,ss]/\an S w (.sl xs) (sV a m c)
def ad6(C:Ctx)(row:Row)(r:Zi)(w:YC)(e:TP)(w':YC):Prop:=(∃v,e=.returned v/\apO w w' row v)/\PS C w' r/\Kept (ch C) w w'
abbrev ana(W:YC)(bx:Nat)(a b c d e f:YE):World:=(ahT W bx a b c d e).setCell ⟨bx,5,none⟩ f
def QP(W:YC)(bx:Nat)(a b c d e f:YE):Kept (λk=>k=bx) W (ana W bx a b c d e f):=(Jn W bx a b c d e).trans' (au bx 5 f)
def ahU{f:Nat}(I9:f<=6000){C:Ctx}{w:YC}{l r:Zi}{row:Row}(fx:∀s∈C.fs,bW s)(h:PS C w l)(hx:abt C.fs f l=some (row,r)):Calls prog 239 #[pP C] w (ad6 C row r w):=by
 simp only[abt,cF] at hx;obtain⟨⟨nm,r1⟩,h1,hx⟩:=aw.1 hx;obtain⟨r2,h2,hx⟩:=aw.1 hx;obtain⟨⟨ty,r3⟩,h3,hx⟩:=aw.1 hx
 cases hx;dsimp only at h2 h3;revert I9 fx h1 h2 h3;refine nx ?_;intro I9 fx h1 h2 h3;have G0:=ah ((GB.start h).push (cO #[eS,oZ,eS,nS,false,false] 237) rfl);go_enter func239,ntmps239;go_wp2_with fail;refine bY (Mr G0.ps h1) λw1 P1 K1=>?_;have G1:=ah (G0.aB P1 K1);go_wp2_with fail;refine bY (fj G1.ps ":" h2) λw2 P2 K2=>?_;have G2:=ah (G1.aB P2 K2);go_wp2_with fail;refine(Z1 f I9 C _ _ _ _ fx G2.ps h3).mono ?_;rintro e w3 ⟨⟨v,rfl,k,tn,xs,vv,ss,a,m,c,rfl,rfl,hv⟩,P3,K3⟩;have G3:=ah (G2.aB P3 K3);replace hv:=ah (lU (w:=w) (n:=1) hv (by have:=G2.lt;simpa using this));obtain⟨b0,b1,b2,b3,b4,b5,-⟩:=cc (W:=w3) (b:=w) (G3.out.bx 0 _ rfl);have fb:∀j,w3.frozen? ⟨w,j,none⟩=false:=al (G3.bx 0 _ rfl);go_wp2;refine bG (v:=.agg #[nm,k,tn,sV a m c,vv,ss]) (by simp[results,results239,go_sem,b0,b1,b2,b3,b4,b5]) rfl ?_;have hk:=QP w3 w.heap.size (.string (bs nm)) (iV k) (.string (bs tn)) (sV a m c) (.bool vv) (.bool ss);have:=G3.sg.step hk dF;exact⟨⟨_,rfl,nm,k,tn,xs,vv,ss,a,m,c,rfl,rfl,(hv.kept hk nU).mono λb hb _=>by unfold xy at hb;omega⟩,this.ps,this.kp⟩
def Mv:(prog.info? 237).map (λi=>(i.zero,i.size,i.bytes))=some (some (.agg #[eS,oZ,eS,nS,false,false]),6,72):=by kernel_rfl
def Sn(sep:Yz)(one:Nat->List aF->Option (Row×List aF))(C:Ctx)(w:YC)(F:Nat)(rows:Zg)(r:Zi)(gg:Nat)(s7:YE)(wr:YC):Prop:=
 ∃(acc:Zg) (xs:List (Row)) (f:Nat) (rc:Zi),OwnR w.heap.size w wr 237 6 s7 acc/\PS C wr rc/\Kept (ch C) w wr/\jL sep (nj sep one f) rc=some (xs,r)/\f<=F/\rows=acc++xs.map id/\f<=gg/\acc.length+f<=6000
def abF{F:Nat}{one:Nat->List aF->Option (Row×List aF)}(ho:∀(f:Nat),f < F->∀(w:YC) (l r:Zi) (x:Row),PS C w l->one f l=some (x,r)->Calls prog 239 #[pP C] w (ad6 C x r w)){w:YC}{l r:Zi}{rows:List (Row)}(hx:nj ";" one F l=some (rows,r))(h:PS C w l)(dx:F<=6000):Calls prog 238 #[pP C,.string ⟨#[59]⟩,.func (.func 239) #[pP C] #[]] w (fR C 6 (rows.map id) r w):=by
 obtain⟨i,hi,hz,cL,dY⟩:=dN Mv
 cases F with
 |zero=>cases hx
 |succ F=>
 rw[fA] at hx;obtain⟨⟨x,r1⟩,iF,h2⟩:=aw.1 hx;obtain⟨⟨xs,r2⟩,ir,h3⟩:=aw.1 h2
 cases h3;dsimp only at ir;have hw:=ah h.bd;have Ax:=ah (eP h);revert h hi hz cL dY dx iF ir;refine TR ?_;intro h hi hz cL dY dx iF ir;go_enter func238,ntmps238;go_wp2_with fail;refine(ho F (j4 F) _ _ _ _ h iF).mono ?_;rintro e w1 ⟨⟨v,rfl,vn,k,nm,ks,vv,ss,a,m,c,rfl,rfl,hv⟩,P1,K1⟩;have rG:=K1.size;obtain⟨W,hW⟩:∃W,W=w1.alloc (cO #[vn,k,nm,sV a m c,vv,ss] 237):=⟨_,rfl⟩
 have hO:OwnR w.heap.size w W 237 6 (sV w1 1 1) [[vn,k,nm,ks,vv,ss]]:=by rw[hW];refine OwnR.Ry (arr:=#[vn,k,nm,sV a m c,vv,ss]) ao rfl rfl rG ?_;exact .cons (.str _) (.cons (.int _) (.cons (.str _) (.cons (hv.keep (λb hb hl=>⟨hb,by omega⟩) ai λb _ hl=>jm _ _ _ hl) (.cons (.bool _) (.cons (.bool _) .nil)))))
 refine oB ?_;intro hP hK;have hrel:Hid (Sn ";" one C w F ([vn,k,nm,ks,vv,ss]::xs.map id) r2 F (sV w1 1 1) W):=
  ah ⟨_,xs,F,r1,hO,hP,hK,ir.out,aM _,rfl,aM _,by have:=dx.out;simp;omega⟩
 go_wp2;rw[<-hW];replace hW:=ah hW;go_loopg [7] F (λgg s7 wr=>Sn ";" one C w F ([vn,k,nm,ks,vv,ss]::xs.map id) r2 gg s7 wr)
 case atStart=>exact hrel
 case round=>
  obtain⟨acc,XD,f,rc,hO,hP,lH,hm,gT,aN,de,h6⟩:=hrel;obtain⟨a7,gy,rfl⟩:=hO.form;by_cases hc:aO ";" rc=true
  .have cg:=hm;unfold jL at cg;rw[aI hc] at cg
   cases f with
   |zero=>cases cg
   |succ f=>
   revert cg;refine iX ?_;intro cg y r3 lX h4;obtain⟨⟨ys,r4⟩,rZ,h5⟩:=aw.1 h4
   cases h5;dsimp only at rZ;revert hP lH hO hc gT de h6 lX rZ aN;refine zQ ?_;intro hP lH hO hc gT de h6 lX rZ aN;go_wp2_with fail;refine bY (oy hP ";" hc) λw2 P2 K2=>?_;revert P2 K2;refine ct ?_;intro P2 K2;go_wp2_with fail;refine(ho f bT _ _ _ _ P2 lX).mono ?_;rintro e w3 ⟨⟨v,rfl,vn',k',zt,ks',asd,ase,a',m',c',rfl,rfl,hv⟩,P3,K3⟩;obtain⟨V,hV⟩:∃V,V=w3.alloc (cO #[vn',k',zt,sV a' m' c',asd,ase] 237):=⟨_,rfl⟩
   have jl:Kept (ch C) wr V:=mg;have pD:=K2.size;have xD:=lH.size;have nR:OwnR w.heap.size w V 237 6 (sV a7 acc.length gy) acc:=
    hO.kept jl cC cT
   have qp:aP (λb=>w.heap.size<=b/\Value.ownBlock (sV a7 acc.length gy)≠some b) V [vn',k',zt,ks',asd,ase] [vn',k',zt,sV a' m' c',asd,ase]:=by have IN:=hv.kept (w':=V) (F:=aK) pr (λ_ _ _ e=>e);exact .cons (.str _) (.cons (.int _) (.cons (.str _) (.cons (IN.mono λb hb _=>⟨by omega,λe=>by have:=(hO.lt b e).2;omega⟩) (.cons (.bool _) (.cons (.bool _) .nil)))))
   have Jb:PS C V r3:=nK;have eG:∀(j:Nat) (u:YE),([vn',k',zt,sV a' m' c',asd,ase]:YT)[j]?=some u->V.cell? ((⟨w3,0,none⟩:Addr).add j)=some u:=kF;have lD:w.heap.size<=V.heap.size:=kG;revert nR qp Jb;refine jk ?_;intro nR qp Jb;replace jl:=ah (lH.trans' jl);revert eG lD;refine ct ?_;intro eG lD;subst hV;go_wp2_with (at_builtin;refine bu (P:=prog) underlying143 hi hz cL dY rfl ab ab rfl (.tmp 14) (.tmp 17) rfl rfl ⟨w3,0,none⟩ 1 rfl _ _ nR lD dr rfl eG qp ?_);refine kC ?_;intro v' W' iH lE aL Uq yu;have hrel:Hid (Sn ";" one C w F ([vn,k,nm,ks,vv,ss]::xs.map id) r4 f v' W'):=
    ah ⟨_,ys,f,r3,iH,Uq,yu,rZ.out,by have:=gT.out;omega,by rw[aN.out];simp,aM _,by have:=h6.out;simp;omega⟩
   exact fK
  .have cg:=hm;unfold jL at cg;rw[aE hc] at cg
   cases cg;simp only[gI] at hc;revert lH hO hP hc;refine jU ?_;intro lH hO hP hc;rw[xK,gp] at aN;replace aN:=ah aN;go_wp2_with fail;refine bY (ew hP ";" hc) λw2 P2 K2=>?_;have qY:OwnR w.heap.size w w2 237 6 (sV a7 acc.length gy) acc:=
    hO.kept K2 cC cT
   exact xZ
abbrev zVa:Value:=.agg #[eS,oZ,eS,nS,false,false]
def OwnR.fresh{S:Wq}{B:Nat}{w:YC}{E:UB}{wd:Nat}{arr:Zt}(hB:B<=w.heap.size)(hm:n<=maxLen)(ha:arr.size=n*wd):OwnR B S (w.alloc (cO arr E)) E wd (sV w 0 n) []:=by
 refine⟨[],.nil,by simp;try omega,.inr ⟨w.heap.size,n,arr,rfl,hB,?_,dE _,hm,?_,by simp⟩⟩
 .rw[heap_alloc,aI rfl]
 .exact ha
def aeX(h0:0 < n)(h6:n<=1000000)(w:YC){B:Nat}(hB:B<=w.heap.size)(S:Wq):Calls prog 281 #[nS,n] w λe w'=>∃v,e=.returned v/\OwnR B S w' 237 6 v []/\Kept aK w w':=by
 obtain⟨i,hi,hz,hs,hb⟩:=dN Mv;have gV:=Lib.run_append_grow_zeros (P:=prog) w 143 3 143 237 i zVa .i64 .i64 underlying143 underlying3 hi hz none 0 0 [] (run_firstCells_none w.drew i.size 0 0 0) n h0 ab ab ab (by rw[hb];omega)
  (growslice_fits ab (by rw[hb];omega))
 have hO:OwnR B S (w.drew.alloc (cO ((#[]:Zt)++Builtin.zeroCells zVa.cells n++Builtin.zeroCells zVa.cells (grownCap w (0+n) 0 237 - (0+n))) 237)) 237 6 (sV w 0 (grownCap w (0+n) 0 237)) []:=by refine OwnR.fresh (w:=w.drew) (S:=S) hB (Rp w (0+n) 0 237 iZ) ?_;have WI:=grownCap_ge w (0+n) 0 237;rw[Zl,Zl,Zm,Zm];have:zVa.cells.size=6:=rfl;rw[this];rw[show(#[]:Zt).size=0 from rfl];omega
 have hK:Kept aK w (w.drew.alloc (cO ((#[]:Zt)++Builtin.zeroCells zVa.cells n++Builtin.zeroCells zVa.cells (grownCap w (0+n) 0 237 - (0+n))) 237)):=(Kept.refl aK w).drew.alloc _;obtain⟨W',hW⟩:∃W',W'=w.drew.alloc (cO ((#[]:Zt)++Builtin.zeroCells zVa.cells n++Builtin.zeroCells zVa.cells (grownCap w (0+n) 0 237 - (0+n))) 237):=⟨_,rfl⟩
 obtain⟨G,hG⟩:∃G,G=grownCap w (0+n) 0 237:=⟨_,rfl⟩
 have hGn:0+n<=G:=hG▸grownCap_ge w (0+n) 0 237;have arC:G<=9223372036854775807:=by have h2:=Rp w (0+n) 0 237 iZ;rw[<-hG] at h2;simp only[maxLen] at h2;omega
 rw[<-hW,<-hG] at gV hO;rw[<-hW] at hK;rw[fi] at gV hGn;clear hW hG;revert hK hO;refine ct ?_;intro hK hO;have nz:((n:Int) > 0):=ab;have Pm:¬((n:Int) < 0):=ab;go_enter func281,ntmps281;go_wp2_with (at_builtin;refine Lib.wpList_append_run _ rfl _ _ _ _ rfl _ _ rfl rfl _ _ (gV) ?_);go_ret;exact⟨_,rfl,hO,hK⟩
def abO(w:YC):Calls prog 281 #[nS,oZ] w λe w'=>e=.returned (sV none 0 0)/\w'=w:=by go_enter func281,ntmps281;exact cQ
def aeY(h6:n<=1000000)(w:YC){B:Nat}(hB:B<=w.heap.size)(S:Wq):Calls prog 281 #[nS,n] w λe w'=>∃v,e=.returned v/\OwnR B S w' 237 6 v []/\Kept aK w w':=by
 by_cases h0:n=0
 .subst h0;refine(abO w).mono ?_;rintro e w' ⟨rfl,rfl⟩;exact asR
 .exact aeX ab h6 w hB S
def alp(w:YC)(l1 l2 gg:Nat)(s3 s11:YE)(wr:YC):Prop:=
 wr=w/\((gg=2/\s11=iV 0/\s3=iV 0)∨(gg=1/\s11=iV 1/\s3=iV (l1:Nat))∨(gg=0/\s11=iV 2/\s3=iV ((l1+l2:Nat):Int)))
def SU(w:YC)(r1 r2:Zg)(gg:Nat)(s6 s27:YE)(wr:YC):Prop:=
 Kept aK w wr/\((gg=2/\s27=iV 0/\OwnR w.heap.size (λb=>b < w.heap.size) wr 237 6 s6 [])∨(gg=1/\s27=iV 1/\OwnR w.heap.size (λb=>b < w.heap.size) wr 237 6 s6 ([]++r1))∨(gg=0/\s27=iV 2/\OwnR w.heap.size (λb=>b < w.heap.size) wr 237 6 s6 ([]++r1++r2)))
def abP{S1 S2:Wq}{w:YC}{r1 r2:Zg}{a1 a2:YS}{c1 c2 b:Nat}(v1:an S1 w (.sl r1) (sV a1 r1.length c1))(v2:an S2 w (.sl r2) (sV a2 r2.length c2))(q1:w.cell? ⟨b,0,none⟩=some (sV a1 r1.length c1))(q2:w.cell? ⟨b,1,none⟩=some (sV a2 r2.length c2))(h1:∀row∈r1,row.length=6)(h2:∀row∈r2,row.length=6)(xY:r1.length<=400000)(oL:r2.length<=400000):Calls prog 250 #[sV (some ⟨b,0,none⟩) 2 2] w λe w'=>∃v,e=.returned v/\an (λ_=>True) w' (.sl (r1++r2)) v/\Kept aK w w':=by
 obtain⟨i,hi,hz,hs,hb⟩:=dN Mv;have alq:((r1.length:Int)+(r2.length:Int))=((r1.length+r2.length:Nat):Int):=by push_cast;rfl
 have Il:=cA w _ q1;revert v1 v2 h1 h2 hi hz hs hb alq;refine hd9 ?_;intro v1 v2 h1 h2 hi hz hs hb alq;go_enter func250,ntmps250;go_wp2_with fail;go_loopg [3,11] 2 (λgg s3 s11 wr=>alp w r1.length r2.length gg s3 s11 wr)
 case atStart=>exact⟨rfl,.inl ⟨rfl,rfl,rfl⟩⟩
 case round=>
  obtain⟨rfl,⟨rfl,rfl,rfl⟩|⟨rfl,rfl,rfl⟩|⟨rfl,rfl,rfl⟩⟩:=hrel
  .go_wp2_with fail;go_roundg 1
   case measure=>omega
   case rel=>exact⟨rfl,.inr (.inl ⟨rfl,rfl,rfl⟩)⟩
  .have hn:¬(((r1.length:Int)+(r2.length:Int)) < 0):=by omega
   go_wp2_with fail;go_roundg 0
   case measure=>omega
   case rel=>exact⟨rfl,.inr (.inr ⟨rfl,rfl,by rw[alq.out]⟩)⟩
  .obtain⟨wb,hwb⟩:∃x,x=wr:=⟨_,rfl⟩
   subst hwb;go_wp2_with fail;refine(aeY ab wb (aM _) (λb=>b < wb.heap.size)).mono ?_;rintro e w1 ⟨v,rfl,hO,K⟩;have jr:Hid (SU wb r1 r2 2 v (iV 0) w1):=ah ⟨K,.inl ⟨rfl,rfl,hO⟩⟩;go_wp2_with fail;go_loopg [6,27] 2 (λgg s6 s27 w2=>SU wb r1 r2 gg s6 s27 w2)
   case atStart=>exact jr
   case round=>
   obtain⟨K,⟨rfl,rfl,hO⟩|⟨rfl,rfl,hO⟩|⟨rfl,rfl,hO⟩⟩:=hrel
   .have hvK:=(v1.kept K (λ_ _ _ e=>e))
    have hvM:an (λb=>b < wb.heap.size/\Value.ownBlock u6≠some b) wr (.sl r1) (sV a1 r1.length c1):=(v1.keep (S':=λb=>b < wb.heap.size/\Value.ownBlock u6≠some b) AI K.size (λb _ hl=>K.block b hl (λe=>e)))
    have qa:wr.cell? ⟨b,0,none⟩=(some (sV a1 r1.length c1):Option Value):=(K.cell Il (λe=>e)).trans q1;have Ph:=K.size;revert K hO hvM;refine jk ?_;intro K hO hvM;go_wp2_with (at_builtin;refine kZ (P:=prog) underlying143 hi hz hs hb rfl ab ab rfl (.tmp 31) (.tmp 32) rfl rfl rfl hO Ph aH h1 hvM ?_);intro v' W' iH lE aL;have xd:Hid (SU wb r1 r2 1 v' (iV 1) W'):=ah ⟨K.trans lE AO,.inr (.inl ⟨rfl,rfl,iH⟩)⟩;go_wp2_with fail;go_roundg 1
    case measure=>omega
    case rel=>exact xd
   .have hvK:=(v2.kept K (λ_ _ _ e=>e))
    have hvM:an (λb=>b < wb.heap.size/\Value.ownBlock u6≠some b) wr (.sl r2) (sV a2 r2.length c2):=(v2.keep (S':=λb=>b < wb.heap.size/\Value.ownBlock u6≠some b) AI K.size (λb _ hl=>K.block b hl (λe=>e)))
    have qa:wr.cell? ⟨b,1,none⟩=(some (sV a2 r2.length c2):Option Value):=(K.cell Il (λe=>e)).trans q2;have Ph:=K.size;revert K hO hvM;refine jk ?_;intro K hO hvM;go_wp2_with (at_builtin;refine kZ (P:=prog) underlying143 hi hz hs hb rfl ab ab rfl (.tmp 31) (.tmp 32) rfl rfl rfl hO Ph aH h2 hvM ?_);intro v' W' iH lE aL;have xd:Hid (SU wb r1 r2 0 v' (iV 2) W'):=ah ⟨K.trans lE AO,.inr (.inr ⟨rfl,rfl,iH⟩)⟩;go_wp2_with fail;go_roundg 0
    case measure=>omega
    case rel=>exact xd
   .go_wp2_with fail;go_ret;exact⟨_,rfl,by simpa using hO.rC (S':=λ_=>True) (λ_ _ _=>bw) (λ_ _ _=>bw),K⟩
end Go.Proofs.Gm
