/- Part of BaseDrivers. No condition. -/
import Derived.Test.YtibajhihfaggfaaGreatDoorQAL
set_option linter.all false
set_option maxRecDepth 100000
set_option maxHeartbeats 0
namespace Go.Proofs.Gm
open Go.Proofs.Tryz Go.RowKit Go.Maps Go.Proofs.Bm
variable {n N:Nat}{S:Wq}{cs:YT}{nm:Yz}{v:YE}{l rows:Zg}{k:Int}
def Sz(C:Ctx)(row:Row)(r:Zi)(w:YC)(e:TP)(w':YC):Prop:=(∃v,e=.returned v/\ClV w w' row v)/\(∃(fs:Y9) (fv:YE) (Bd:Nat),PS (C.dj fs fv Bd) w' r/\an (λb=>w.heap.size<=b/\b < Bd) w' (.sl (strs fs)) fv)/\Kept (ch C) w w'
def alh(hV:dT){F:Nat}(dx:F<=6000){C:Ctx}{w:YC}{l r1 r2:Zi}{nm:Yz}(h:PS C w l)(h1:cK "class" l=some r1)(h2:word 2 r1=some (nm,r2))(hn4:zX.contains nm=false){r3 r5 r6 r7 r8 r:Zi}{fo pa cr fe iv:Zg}(h3:(if aO "[" r2=true then((ld r2.tail).bind λx=>(cK "]" x.2).bind λy=>some ([x.1],y)) else some ([],r2))=some (fo,r3))(oQ:∀s∈fo.map bF,bW s)(h5:(if aO "inherit" r3=true then((nc F r3.tail).bind λx=>if dv x.2==2 then none else some ([x.1],x.2)) else some ([],r3))=some (pa,r5))(hpn:(∃x,pa=[x])->∀nm r1,word 2 r3.tail=some (nm,r1)->zW.contains nm=false)(h6:(if aO "create" r5=true then((fB 1 F r5.tail).bind λx=>some (strs x.1,x.2)) else some ([],r5))=some (cr,r6))(h7:qm (fo.map bF) F r6=some (fe,r7))(hfe:fe.length<=1000000)(h8:(if aO "invariant" r7=true then cI F r7.tail else some ([],r7))=some (iv,r8))(h9:cK "end" r8=some r)(hD:Ii 185 [.str nm,false,fo,pa,(cr),fe,iv]):Calls prog 95 #[pP C] w (Sz C [.str nm,false,fo,pa,cr,fe,iv] r w):=by
 obtain⟨arA,hi,A6,cL,dY⟩:=dN aib;obtain⟨i9,hi9,UD,ali,alj⟩:=dN QO;have hdf:aO "deferred" l=false:=by
  cases l with
  |nil=>rfl
  |cons t r2=>
   unfold cK at h1;split at h1
   .exact yj
   .cases h1
 obtain⟨tt,rt,bQ⟩:∃t r,l=t::r:=by
  cases l with
  |nil=>unfold cK at h1;simp[aO] at h1
  |cons t r=>exact⟨t,r,rfl⟩
 have eo:=ah (eP h);have hgb:=h.gb;have rk:=h.bd;have apW:Hid (C.g < w.heap.size):=ah ab;have G:GR C (((w.alloc (cO #[pP C] 128)).alloc (cO #[eS,false,nS,nS,nS,nS,nS] 83)).alloc (cO #[eS,false,nS,nS,nS,nS,nS] 83)) (w.heap.size+1+1) l #[eS,false,nS,nS,nS,nS,nS] 83 (((w.alloc (cO #[pP C] 128)).alloc (cO #[eS,false,nS,nS,nS,nS,nS] 83)).alloc (cO #[eS,false,nS,nS,nS,nS,nS] 83)):=by
  refine⟨((h.alloc _).alloc _).alloc _,?_,Kept.refl _ _,?_,by have:=eo.out;omega,by omega,by simp,by simp;omega⟩
  .exact h.fm.keep (λb hb hl=>⟨hb.1,hb.2,by omega⟩) aH (λb _ hl=>by rw[heap_alloc,aE aH,heap_alloc,aE aH,heap_alloc,aE ab])
  .exact pg
 have hb:(((w.alloc (cO #[pP C] 128)).alloc (cO #[eS,false,nS,nS,nS,nS,nS] 83)).alloc (cO #[eS,false,nS,nS,nS,nS,nS] 83)).heap[w.heap.size]?=some (.cells #[pP C] 128 (0,0)):=by exact D7
 have hz:(((w.alloc (cO #[pP C] 128)).alloc (cO #[eS,false,nS,nS,nS,nS,nS] 83)).alloc (cO #[eS,false,nS,nS,nS,nS,nS] 83)).heap[w.heap.size+1]?=some (.cells #[eS,false,nS,nS,nS,nS,nS] 83 (0,0)):=by exact Ex
 have gU:w.heap.size≠C.p:=gO;have zU:w.heap.size≠(w.heap.size+1+1):=ab;have hw3:(((w.alloc (cO #[pP C] 128)).alloc (cO #[eS,false,nS,nS,nS,nS,nS] 83)).alloc (cO #[eS,false,nS,nS,nS,nS,nS] 83)).heap.size=w.heap.size+1+1+1:=ai;clear h hgb rk;revert h1 h2 hn4 hdf G hb hz gU zU hw3;refine zQ ?_;intro h1 h2 hn4 hdf G hb hz gU zU hw3;have Pj:=H6;revert h3 oQ h5 hpn h6 h7 hfe h8 h9 hD hi A6 cL dY hi9 UD ali alj;refine apn ?_;intro h3 oQ h5 hpn h6 h7 hfe h8 h9 hD hi A6 cL dY hi9 UD ali alj;go_enter func95,ntmps95;go_wp2_with fail;refine(X2 (t:=tt) (r:=rt) (bQ▸G.ps)).mono ?_;rintro e w4 ⟨plx,ply,rfl,K4⟩;have G4:=ah ((G.no K4).alloc (cO #[plx,ply] 42));have pb:=bc (G4.box hb gU zU) 0;have q1:=bc G4.rc 1;go_wp2_with fail;refine bY (ew G4.ps "deferred" hdf) λw5 P5 K5=>?_;have G5:=ah (G4.aB P5 K5);clear pb q1;have q1:=bc G5.rc 1;have f1:=G5.Xo 1;have G6:Hid (GR C (((w.alloc (cO #[pP C] 128)).alloc (cO #[eS,false,nS,nS,nS,nS,nS] 83)).alloc (cO #[eS,false,nS,nS,nS,nS,nS] 83)) (w.heap.size+1+1) l #[eS,false,nS,nS,nS,nS,nS] 83 (w5.setCell ⟨(w.heap.size+1+1),1,none⟩ (.bool false))):=ah (G5.set 1 (.bool false));have pb:=bc (W:=w5.setCell ⟨(w.heap.size+1+1),1,none⟩ (.bool false)) (bx:=w.heap.size) (G6.box hb gU zU) 0;go_wp2_with fail;refine bY (fj G6.ps "class" h1) λw7 P7 K7=>?_;have G7:=ah (G6.aB P7 K7);clear pb q1 f1;have pb:=bc (G7.box hb gU zU) 0;go_wp2_with fail;have QI:an (λb=>b≠C.p) (w7.alloc (cO #[.string gj,.string gn,.string MI,.string eQ] 9)) (.sl (strs zX)) (sV w7 4 4):=
  xW (w:=w7) (arr:=#[.string gj,.string gn,.string MI,.string eQ]) (E:=9) (fs:=zX) C.p (by rfl) aj (by have:=eo.out;have:=G7.kp.size;have:=hw3.out;omega)
 refine bY (ov (G7.alloc _).ps h2 QI (λb e=>e) aao hn4) λw8 P8 K8=>?_;have G8:=ah ((G7.alloc (cO #[.string gj,.string gn,.string MI,.string eQ] 9)).aB P8 K8);clear pb QI;have q0:=bc (W:=w8) (bx:=(w.heap.size+1+1)) G8.rc 0;have f0:=G8.Xo 0;have G9:=G8.set 0 (.string (bs nm));have c4:=G9.ps.c4;have f4:=G9.ps.fr 4;have pb:=bc (W:=w8.setCell ⟨(w.heap.size+1+1),0,none⟩ (.string (bs nm))) (bx:=w.heap.size) (G9.box hb gU zU) 0;have PU:Hid (GR (C.dj [] (sV none 0 0) C.Bd) (((w.alloc (cO #[pP C] 128)).alloc (cO #[eS,false,nS,nS,nS,nS,nS] 83)).alloc (cO #[eS,false,nS,nS,nS,nS,nS] 83)) (w.heap.size+1+1) r2 #[.string (bs nm),false,nS,nS,nS,nS,nS] 83 ((w8.setCell ⟨(w.heap.size+1+1),0,none⟩ (.string (bs nm))).setCell ⟨C.p,4,none⟩ (sV none 0 0))):=
  ah (G9.dj (fs:=[]) (fv:=sV none 0 0) (Bd:=C.Bd) (aM _) G9.bd .nil)
 replace G9:=ah G9;have Nx:=bc (W:=(w8.setCell ⟨(w.heap.size+1+1),0,none⟩ (.string (bs nm))).setCell ⟨C.p,4,none⟩ (sV none 0 0)) (bx:=w.heap.size) (PU.box hb gU zU) 0;go_wp2_with fail;refine(aap (C:=(C.dj [] (sV none 0 0) C.Bd)) (P:=λl=>(ld l).bind λx=>(cK "]" x.2).bind λy=>some ([x.1],y)) PU "[" rfl h3 (λV1 hs GV hh=>by
  obtain⟨⟨xx,rr⟩,hq,ar7⟩:=aw.1 hh;obtain⟨yy,asa,hh3⟩:=aw.1 ar7
  cases hh3;exact ale GV hb gU zU rfl hq asa) bP).mono ?_
 rintro e xS ⟨rfl,Fq,BL,GT,sF,bQ,KT⟩;have hsV:=ah PU.out.kp.size;have Ol:Hid (GR (C.dj [] (sV none 0 0) C.Bd) (((w.alloc (cO #[pP C] 128)).alloc (cO #[eS,false,nS,nS,nS,nS,nS] 83)).alloc (cO #[eS,false,nS,nS,nS,nS,nS] 83)) (w.heap.size+1+1) r3 #[.string (bs nm),false,sV Fq fo.length BL,nS,nS,nS,nS] 83 xS):=ah GT;have R11:Hid (aP (λb=>w.heap.size+3<=b) xS [.str nm,false,fo,.sl [],.sl [],.sl [],.sl []] [.string (bs nm),false,sV Fq fo.length BL,nS,nS,nS,nS]):=ah (.cons (.str _) (.cons (.bool _) (.cons (sF.mono λb hb _=>by have:=hsV.out;have:=hw3.out;omega) (.cons .nil (.cons .nil (.cons .nil (.cons .nil .nil)))))));clear GT sF bQ KT hsV pb Nx q0 f0 c4 f4;have q2:=bc (W:=xS) (bx:=(w.heap.size+1+1)) Ol.rc 2;have pb:=bc (W:=xS) (bx:=w.heap.size) (Ol.box hb gU zU) 0;have aic:fo.length<=1:=by
  have h:=h3.out;split at h
  .obtain⟨x,_,h⟩:=aw.1 h;obtain⟨y,_,h⟩:=aw.1 h
   cases h;simp
  .cases h;simp
 have lH:Kept (ch C) w xS:=((((Kept.refl (ch C) w).alloc (cO #[pP C] 128)).alloc (cO #[eS,false,nS,nS,nS,nS,nS] 83)).alloc (cO #[eS,false,nS,nS,nS,nS,nS] 83)).trans Ol.kp (λb hb e=>e.elim (λe=>e) (λe=>absurd e ab));have jr:ajU C w (w.heap.size+1+1) w.heap.size (w.heap.size+3) fo r3 #[.string (bs nm),false,sV Fq fo.length BL,nS,nS,nS,nS] [.str nm,false,fo,.sl [],.sl [],.sl [],.sl []] [.string (bs nm),false,sV Fq fo.length BL,nS,nS,nS,nS] fo.length (iV 0) xS:=
  ⟨0,C.Bd,sV none 0 0,rfl,by omega,Ol.X5,λ_=>rfl,.nil,Ol.box hb gU zU,Ol.box hz (show w.heap.size+1≠C.p by have:=eo.out;omega) ab,R11,lH⟩
 revert aic jr;refine ct ?_;intro aic jr;have apX:w.heap.size≠C.p:=gU.out;clear lH R11 hb;go_wp2_with fail;go_loopg [28] fo.length (λgg s28 wr=>ajU C w (w.heap.size+1+1) w.heap.size (w.heap.size+3) fo r3 #[.string (bs nm),false,sV Fq fo.length BL,nS,nS,nS,nS] [.str nm,false,fo,.sl [],.sl [],.sl [],.sl []] [.string (bs nm),false,sV Fq fo.length BL,nS,nS,nS,nS] gg s28 wr)
 case atStart=>exact jr
 case round=>
  obtain⟨i,Bd,fv,rfl,hig,GW,hfv,hfl,mf,hzx,RW,KW⟩:=hrel;by_cases hi0:i < fo.length
  .obtain⟨x,QS⟩:∃x,fo=[x]:=by
    match fo,aic.out,hi0 with
    |[x],_,_=>exact⟨x,rfl⟩
   obtain⟨xa,xb,iF⟩:∃xa xb,x=[.str xa,.str xb]:=by
    have h:=h3.out;split at h
    .obtain⟨y,hy,h⟩:=aw.1 h;obtain⟨z,_,h⟩:=aw.1 h;unfold ld at hy;obtain⟨y1,_,hy⟩:=aw.1 hy;obtain⟨y2,_,hy⟩:=aw.1 hy;obtain⟨y3,_,hy⟩:=aw.1 hy;split at hy
     .cases hy
     .cases hy;cases h;cases QS;exact⟨_,_,rfl⟩
    .cases h;cases QS
   subst iF;have apY:i=0:=by have:=aic.out;omega
   subst apY;obtain rfl:=hfv rfl;clear hfl;obtain⟨ge,off,rfl,WI,csx,hRx,hcx⟩:=(RW.2 2 (.sl fo) _ rfl rfl).elem (k:=0) (row:=[.str xa,.str xb]) (by rw[QS];rfl);obtain⟨c0,Ap,rfl,v0,hr0⟩:=hRx.aG
   cases v0.bq;obtain⟨c1,U6,rfl,v1,hr1⟩:=hr0.aG
   cases v1.bq;obtain⟨e0,e1,-⟩:=hc (o:=off+0*2) λk _ e=>hcx k _ e;rw[xL,fS] at e0 e1;clear hcx hRx hr0 hr1 v0 v1;have xY:fo.length=1:=by rw[QS];rfl
   have jS:(0:Int) < (fo.length:Int):=by rw[xY];omega
   revert mf hzx KW QS hig RW GW xY;refine TR ?_;intro mf hzx KW QS hig RW GW xY;clear pb q2 jr;go_wp2_with fail;have GWd:Hid (GR (C.dj (List.take 0 (List.map bF fo)) (sV none 0 0) Bd) wr ((w.heap.size+1+1)) r3 #[.string (bs nm),false,sV (some ⟨ge,off,none⟩) fo.length BL,nS,nS,nS,nS] 83 (wr.alloc (cO #[.string (bs xa),.string (bs xb)] 130))):=ah (GW.alloc _);have hfd:(wr.alloc (cO #[.string (bs xa),.string (bs xb)] 130)).heap[wr.heap.size]?=some (.cells #[.string (bs xa),.string (bs xb)] 130 (0,0)):=ao;have an3:=aD (x:=cO #[.string (bs xa),.string (bs xb)] 130) mf;have xh:wr.heap.size<=(wr.alloc (cO #[.string (bs xa),.string (bs xb)] 130)).heap.size:=ai;have KWd:Kept aK wr (wr.alloc (cO #[.string (bs xa),.string (bs xb)] 130)):=(Kept.refl aK wr).alloc _;obtain⟨Wd,hWd⟩:∃V,V=wr.alloc (cO #[.string (bs xa),.string (bs xb)] 130):=⟨_,rfl⟩
   rw[<-hWd] at GWd hfd an3 xh KWd|-;obtain⟨bf,hbf⟩:∃b,b=wr.heap.size:=⟨_,rfl⟩
   rw[<-hbf] at hfd|-;replace hbf:=ah hbf;clear hWd;refine wpLive 11 (λV=>V.heap[w.heap.size]?=some (.cells #[pP C] 128 (0,0))/\V.cell? ⟨C.p,4,none⟩=some (sV none 0 0)/\V.heap[bf]?=some (.cells #[.string (bs xa),.string (bs xb)] 130 (0,0))) (λV s=>And.intro (bc s.1 0) (bc s.2.2 0)) ?_ λFF ak=>?_
   .exact⟨an3,GWd.ps.c4,hfd⟩
   refine tkT 0 ?_;refine tkT 1 ?_;refine tkT 2 ?_;refine tkT 3 ?_;refine tkT 4 ?_;refine tkT 5 ?_;refine tkT 6 ?_;refine rdT 7 λK hK=>?_;go_simp;refine hK _ _ ⟨aD ak.1,cD _ ak.2.1,aD ak.2.2⟩ (λak=>?_);clear hK K;refine sp ?_;refine rdT 8 λK hK=>?_;have eG:∀(j:Nat) (u:YE),([.string (bs xa)]:YT)[j]?=some u->(Wd.drew.alloc (cO #[.string (bs xa)] 9)).cell? ((⟨Wd,0,none⟩:Addr).add j)=some u:=eH (w:=Wd.drew);refine eh rfl (kb (P:=prog) underlying22 hi9 UD ali alj rfl ab ab (.tmp 36) (.tmp 39) rfl rfl ⟨Wd,0,none⟩ 1 rfl _ [.str xa] (OwnR.nil (S:=λb=>wr.heap.size<=b) (B:=wr.heap.size)) aH ai rfl eG (.cons (.str _) .nil) ?_);intro v' W' iH lE aL;obtain⟨va,vc,IN⟩:=iH.form;have jo:v'=sV va 1 vc:=IN;clear IN;subst jo;have KN:Kept aK (Wd.drew.alloc (cO #[.string (bs xa)] 9)) W':=lE.mono (λb e=>by cases e);have G':=((GWd.drew).alloc (cO #[.string (bs xa)] 9)).no KN;have c4:=G'.ps.c4;have f4:=G'.ps.fr 4;have aid:=aJ ak.1 KN;have H0:Kept aK wr W':=((KWd.trans' ((Kept.refl aK Wd).drew)).trans' ((Kept.refl aK Wd.drew).alloc (cO #[.string (bs xa)] 9))).trans' KN;revert iH G' H0;refine jk ?_;intro iH G' H0;clear eG aL lE;refine hK _ _ ⟨aid,c4,aJ ak.2.2 KN⟩ (λak=>?_);clear hK K;refine sp ?_;refine tkT 9 ?_;refine tkT 10 ?_;refine ddT 11 λK hK=>?_;revert K hK;refine j9 ?_;have qY:OwnR wr.heap.size wr W' 9 1 (sV va 1 vc) [[.str xa]]:=iH;have hfm:an (λb=>b < W'.heap.size/\b≠C.p/\b≠(w.heap.size+1+1)) W' (.sl (strs [xa])) (sV va 1 vc):=qY.rC (λb hb hl=>⟨hl,by have avH:wr.heap.size<=b:=hb;have h1:C.p < wr.heap.size:=GW.pw;omega,by have avH:wr.heap.size<=b:=hb;have:=GW.gw;omega⟩) (λb hb hl=>⟨hl,by have h1:C.p < wr.heap.size:=GW.pw;omega,by have:=GW.gw;omega⟩);have an4:an (λb=>w.heap.size+3<=b/\b < W'.heap.size) W' (.sl (strs [xa])) (sV va 1 vc):=qY.rC (λb hb hl=>⟨by have avH:wr.heap.size<=b:=hb;have:=GW.gw;omega,hl⟩) (λb hb hl=>⟨by have:=GW.gw;omega,hl⟩);have apZ:=ah (an4.kept (au (W:=W') C.p 4 (sV va 1 vc)) (λb hb _ e=>by have:=eo.out;have:=hb.1;omega));clear an4;have GN:=((G'.X5).dj (fs:=[xa]) (fv:=sV va 1 vc) (Bd:=W'.heap.size) G'.ps.bd (aM _) hfm).X5;have Md:(fo.map bF).take 1=[xa]:=by rw[QS.out];rfl
   have alk:(W'.setCell ⟨C.p,4,none⟩ (sV va 1 vc)).heap[w.heap.size]?=some (.cells #[pP C] 128 (0,0)):=(au (W:=W') C.p 4 (sV va 1 vc)).block _ (aQ.1 aid).1 (λe=>apX e) |>.trans aid;have alm:=((au (W:=W') C.p 4 (sV va 1 vc)).block _ (qD (aQ.1 hzx).1 H0.size) (λe=>by have:=eo.out;omega)).trans (aJ hzx H0);have RW9:=(RW.kept H0 (λ_ _ _ e=>e)).kept (au (W:=W') C.p 4 (sV va 1 vc)) (λb hb _ e=>by have:=eo.out;omega);have KW9:=(KW.trans' (aK.to H0)).trans' (au (W:=W') C.p 4 (sV va 1 vc));revert GN Md alk alm RW9 KW9;refine LX ?_;intro GN Md alk alm RW9 KW9;clear qY hfm c4 f4 aid ak;go_wp2_with fail;go_roundg 0
   case measure=>have:=hig.out;have:=xY.out;omega
   case rel=>exact⟨1,W'.heap.size,.slice va 1 vc,rfl,by have:=xY.out;omega,by rw[Md.out];exact GN,λe=>absurd e ab,by rw[Md.out];exact apZ,alk,alm,RW9,KW9⟩
  .have hil:i=fo.length:=by omega
   subst hil;obtain⟨wb,hwb⟩:∃x,x=wr:=⟨_,rfl⟩
   subst hwb;have jS:¬((fo.length:Int) < (fo.length:Int)):=ab;have tR:(fo.map bF).take fo.length=fo.map bF:=oh ai;rw[tR] at GW hfl;replace hfl:=ah hfl;have AR:w.heap.size+3<=wb.heap.size:=by have:=GW.gv;omega
   have GG0:=ah GW;have RR0:=ah RW;revert mf hzx KW AR;refine jU ?_;intro mf hzx KW AR;clear pb q2 jr tR GW RW;have pb:=bc (W:=wb) (bx:=w.heap.size) mf 0;go_wp2_with fail;refine(aap (C:=(C.dj (fo.map bF) fv Bd)) (P:=λl=>(nc F l).bind λx=>if dv x.2==2 then none else some ([x.1],x.2)) GG0 "inherit" rfl h5 (λV1 hs GV hh=>by
    obtain⟨⟨xx,rr⟩,hn,ar7⟩:=aw.1 hh;dsimp only at ar7;split at ar7
    .cases ar7
    rename_i hk
    cases ar7;exact alf GV mf gU zU rfl dx hn (hpn ⟨_,rfl⟩) jc) bP).mono ?_
   rintro e v1 ⟨rfl,NO,NP,GT,sF,bQ,KT⟩;have hsV:=ah GG0.out.kp.size;have GG1:Hid (GR (C.dj (fo.map bF) fv Bd) wb (w.heap.size+1+1) r5 #[.string (bs nm),false,sV Fq fo.length BL,sV NO pa.length NP,nS,nS,nS] 83 v1):=ah GT;have RR1:Hid (aP (λb=>w.heap.size+3<=b) v1 [.str nm,false,fo,pa,.sl [],.sl [],.sl []] [.string (bs nm),false,sV Fq fo.length BL,sV NO pa.length NP,nS,nS,nS]):=ah ((RR0.kept KT vP).mR (sF.mono λb hb _=>by have:=hsV.out;have:=AR.out;omega) 3);clear GG0 RR0 GT sF bQ KT hsV pb;have pb:=bc (GG1.box mf gU zU) 0;go_wp2_with fail;refine(aap (C:=(C.dj (fo.map bF) fv Bd)) (P:=λl=>(fB 1 F l).bind λx=>some (strs x.1,x.2)) GG1 "create" rfl h6 (λV1 hs GV hh=>by
    obtain⟨⟨sS,rr⟩,hn,ar7⟩:=aw.1 hh
    cases ar7;exact alc GV mf gU zU rfl dx hn) bP).mono ?_
   rintro e v2 ⟨rfl,Pz,PB,GT,sF,bQ,KT⟩;have hsV:=ah GG1.out.kp.size;have GG2:Hid (GR (C.dj (fo.map bF) fv Bd) wb (w.heap.size+1+1) r6 #[.string (bs nm),false,sV Fq fo.length BL,sV NO pa.length NP,sV Pz cr.length PB,nS,nS] 83 v2):=ah GT;have RR2:Hid (aP (λb=>w.heap.size+3<=b) v2 [.str nm,false,fo,pa,cr,.sl [],.sl []] [.string (bs nm),false,sV Fq fo.length BL,sV NO pa.length NP,sV Pz cr.length PB,nS,nS]):=ah ((RR1.kept KT vP).mR (sF.mono λb hb _=>by have:=hsV.out;have:=AR.out;omega) 4);clear GG1 RR1 GT sF bQ KT hsV pb;have nA:wb.heap.size<=v2.heap.size:=GG2.kp.size;have PE:w.heap.size+3<=v2.heap.size:=by have:=AR.out;omega
   have oV:aeK (C.dj (fo.map bF) fv Bd) wb (w.heap.size+1+1) v2.heap.size F (w.heap.size+3) fe r7 (λu=>#[.string (bs nm),false,sV Fq fo.length BL,sV NO pa.length NP,sV Pz cr.length PB,u,nS]) [.str nm,false,fo,pa,cr,.sl [],.sl []] [.string (bs nm),false,sV Fq fo.length BL,sV NO pa.length NP,sV Pz cr.length PB,nS,nS] F v2:=
    ⟨[],fe,F,r6,sV none 0 0,GG2,.nil,RR2.mono (λb hb hl=>⟨hb,hl⟩),h7,rfl,aM _,aM _,aM _⟩
   replace oV:=ah oV;obtain⟨B0,an5⟩:∃B0,B0=v2.heap.size:=⟨_,rfl⟩
   rw[<-an5] at oV nA PE;revert PE nA;refine ct ?_;intro PE nA;clear GG2 RR2 an5;go_wp2_with fail;go_loopg [7] F (λgg s7 wq=>aeK (C.dj (fo.map bF) fv Bd) wb (w.heap.size+1+1) B0 F (w.heap.size+3) fe r7 (λu=>#[.string (bs nm),false,sV Fq fo.length BL,sV NO pa.length NP,sV Pz cr.length PB,u,nS]) [.str nm,false,fo,pa,cr,.sl [],.sl []] [.string (bs nm),false,sV Fq fo.length BL,sV NO pa.length NP,sV Pz cr.length PB,nS,nS] gg wq)
   case atStart=>exact oV
   case round=>
    obtain⟨acc,xs,f,rc,v5,G,hO,R,hm,zV,de,hB,gT⟩:=hrel;obtain⟨a5,c5,rfl⟩:=hO.form
    cases f with
    |zero=>cases hm
    |succ f=>
    simp only[qm,cF] at hm;by_cases hc:aO "feature" rc=true
    .rw[aI hc] at hm;obtain⟨q1,hq1,hm⟩:=aw.1 hm;obtain⟨⟨cl,q2⟩,asa,hm⟩:=aw.1 hm;obtain⟨q3,hq3,hm⟩:=aw.1 hm;obtain⟨⟨fs1,q4⟩,hq4,hm⟩:=aw.1 hm;obtain⟨⟨ys,q5⟩,hq5,hm⟩:=aw.1 hm
     cases hm;dsimp only at hq3 hq4 hq5 zV;have kc:=Ox asa
     cases f with
     |zero=>cases hq4
     |succ f=>
     rw[qT] at hq4;obtain⟨⟨x,q6⟩,iF,ir⟩:=aw.1 hq4;obtain⟨⟨xs,q7⟩,T4,hx4⟩:=aw.1 ir
     cases hx4;dsimp only at T4;clear hq4 ir oV;revert R hB G hO hc hq1 hq3 de gT asa kc iF T4 zV hq5;refine amP ?_;intro R hB G hO hc hq1 hq3 de gT asa kc iF T4 zV hq5;have pb:=bc (G.box mf gU zU) 0;go_wp2_with fail;refine bY (oy G.ps "feature" hc) λw1 P1 K1=>?_;have G1:=ah (G.aB P1 K1);have U8:=ah (hO.kept K1 Ay Az);have R1:=ah (R.kept K1 gZ);have PJ:Hid (B0<=_):=ah (cn hB.out K1.size);clear P1 K1 G hO R hB pb;have pb:=bc (G1.box mf gU zU) 0;go_wp2_with fail;refine bY (fj G1.ps "\x7b" hq1) λw2 P2 K2=>?_;have G2:=ah (G1.aB P2 K2);have qY:=ah (U8.kept K2 (λb hb _ e=>by have h1:wb.heap.size<=B0:=nA.out;have h2:C.p < wb.heap.size:=G1.pw;have h3:B0<=b:=hb;change b=C.p at e;omega) (λb hb e=>by have h1:wb.heap.size<=B0:=nA.out;have h2:C.p < wb.heap.size:=G1.pw;have h3:=(U8.lt b hb).1;change b=C.p at e;omega));have R2:=ah (R1.kept K2 gZ);have Jd:Hid (B0<=_):=ah (cn PJ.out K2.size);clear P2 K2 G1 U8 R1 PJ pb;have pb:=bc (G2.box mf gU zU) 0;go_wp2_with fail;refine(XM (C:=(C.dj (fo.map bF) fv Bd)) asa G2.ps bT).mono ?_;rintro e w3 ⟨⟨cla,clc,rfl,hvc,hlc⟩,P3,K3⟩;have an6:an (λb=>B0<=b/\Value.ownBlock (sV a5 acc.length c5)≠some b) w3 (.sl (strs cl)) (.slice cla (strs cl).length clc):=hvc.mono λb hb hl=>⟨by have:=Jd.out;omega,λe=>by have:=(qY.lt b e).2;omega⟩
     have hC3:=ah an6;clear hvc hlc an6;have G3:=ah (G2.aB P3 K3);have nR:=ah (qY.kept K3 (λb hb _ e=>by have h1:wb.heap.size<=B0:=nA.out;have h2:C.p < wb.heap.size:=G2.pw;have h3:B0<=b:=hb;change b=C.p at e;omega) (λb hb e=>by have h1:wb.heap.size<=B0:=nA.out;have h2:C.p < wb.heap.size:=G2.pw;have h3:=(qY.lt b hb).1;change b=C.p at e;omega));have R3:=ah (R2.kept K3 gZ);have Mp:Hid (B0<=_):=ah (cn Jd.out K3.size);clear P3 K3 G2 qY R2 Jd pb;have pb:=bc (G3.box mf gU zU) 0;go_wp2_with fail;refine bY (fj G3.ps "\x7d" hq3) λw4 P4 K4=>?_;have G4:=ah (G3.aB P4 K4);have T5:=ah (nR.kept K4 (λb hb _ e=>by have h1:wb.heap.size<=B0:=nA.out;have h2:C.p < wb.heap.size:=G3.pw;have h3:B0<=b:=hb;change b=C.p at e;omega) (λb hb e=>by have h1:wb.heap.size<=B0:=nA.out;have h2:C.p < wb.heap.size:=G3.pw;have h3:=(nR.lt b hb).1;change b=C.p at e;omega));have R4:=ah (R3.kept K4 gZ);have Xu:Hid (B0<=_):=ah (cn Mp.out K4.size);have hC4:=ah (hC3.kept K4 (λb hb _ e=>by have h1:wb.heap.size<=B0:=nA.out;have h2:C.p < wb.heap.size:=G3.pw;have h3:=hb.1;change b=C.p at e;omega));clear nR R3 Mp hC3 pb;have pb:=bc (G4.box mf gU zU) 0;go_wp2_with fail;refine wpLive 8 (λV=>V.heap[w.heap.size]?=some (.cells #[pP C] 128 (0,0))/\V.cell? ⟨(w.heap.size+1+1),5,none⟩=some (sV a5 acc.length c5)) (λV s=>bc s.1 0) ?_ λFF ak=>?_
     .exact⟨G4.drew.box mf gU zU,G4.drew.cellAt 5⟩
     refine tkT 0 ?_;refine tkT 1 ?_;refine tkT 2 ?_;refine tkT 3 ?_;refine rdT 4 λK hK=>?_;go_simp;refine(Ot (C:=(C.dj (fo.map bF) fv Bd)) hV (F:=f) bT (G4.drew).ps (hC4.kept ((Kept.refl aK _).drew) (λ_ _ _ e=>e)) (λb hb e=>by have h1:wb.heap.size<=B0:=nA.out;have h2:C.p < wb.heap.size:=G4.pw;have h3:=hb.1;change b=C.p at e;omega) kc.1 HB oQ iF).mono ?_;rintro e w5 ⟨⟨v,rfl,k,tk,fn,tn,tv,ts,rs,a2,a3,a6,a9,oN,nJ,a12,j7,m2,c2,m3,c3,m6,c6,m9,c9,m10,jI,m11,iE,m12,gh,m13,ft,rfl,asm⟩,P5,K5⟩;dsimp only;have KD:Kept (ch (C.dj (fo.map bF) fv Bd)) _ w5:=((Kept.refl (ch (C.dj (fo.map bF) fv Bd)) _).drew.trans' K5)
     have G5:=ah ((G4.drew).aB P5 K5);have auG:=ah (T5.kept KD (λb hb _ e=>by have h1:wb.heap.size<=B0:=nA.out;have h2:C.p < wb.heap.size:=G4.pw;have h3:B0<=b:=hb;change b=C.p at e;omega) (λb hb e=>by have h1:wb.heap.size<=B0:=nA.out;have h2:C.p < wb.heap.size:=G4.pw;have h3:=(T5.lt b hb).1;change b=C.p at e;omega));have R5:=ah (R4.kept KD gZ);have hC5:=ah (hC4.kept KD (λb hb _ e=>by have h1:wb.heap.size<=B0:=nA.out;have h2:C.p < wb.heap.size:=G4.pw;have h3:=hb.1;change b=C.p at e;omega));have abp:Hid (B0<=_):=ah Xu.out;have Uu:=ah (λb (e:Value.ownBlock (sV a5 acc.length c5)=some b)=>(T5.lt b e).2);have hB5:Hid (B0<=w5.heap.size):=ah (cn Xu.out KD.size);revert K hK asm KD;refine FG ?_;intro asm bC ak K hK eG kA PC hR6 avG;refine eh rfl (kb (P:=prog) underlying80 hi A6 cL dY rfl ab ab (.tmp 61) (.tmp 65) rfl rfl ⟨w5,0,none⟩ 1 rfl _ _ PC HR avG rfl eG hR6 ?_);revert auG R5 hC5 abp Uu hB5 asm K hK eG kA PC hR6 avG;refine Fp ?_;intro W' va vc c9 f9 hb9 hB9 hfp QE ak g6 o6 r6';have xd:aeL (C.dj (fo.map bF) fv Bd) wb (w.heap.size+1+1) B0 F (w.heap.size+3) fe q7 ys cl (λu=>#[.string (bs nm),false,sV Fq fo.length BL,sV NO pa.length NP,sV Pz cr.length PB,u,nS]) [.str nm,false,fo,pa,cr,.sl [],.sl []] [.string (bs nm),false,sV Fq fo.length BL,sV NO pa.length NP,sV Pz cr.length PB,nS,nS] f (.slice cla (strs cl).length clc) (W'.setCell ⟨(w.heap.size+1+1),5,none⟩ (sV va (acc.length+1) vc)):=
      ⟨acc++[x],xs,f,q6,_,g6,o6,r6',QE,T4,by rw[zV.out];simp,aM _,by have:=hB9.out;simp;omega,by have:=gT.out;omega⟩
     replace xd:=ah xd;have ap0:f+1<=F:=bT;clear g6 o6 r6' hfp QE ak c9 f9 hb9 hB9 T5 R4 hC4 Xu pb zV iF T4 gT;obtain⟨G0,hG0⟩:∃G,G=gk:=⟨_,rfl⟩
     have arB:f+1+1<=G0:=by have:=de.out;omega
     clear de;go_wp2_with fail;go_loopg [] f (λgg wq=>aeL (C.dj (fo.map bF) fv Bd) wb (w.heap.size+1+1) B0 F (w.heap.size+3) fe q7 ys cl (λu=>#[.string (bs nm),false,sV Fq fo.length BL,sV NO pa.length NP,sV Pz cr.length PB,u,nS]) [.str nm,false,fo,pa,cr,.sl [],.sl []] [.string (bs nm),false,sV Fq fo.length BL,sV NO pa.length NP,sV Pz cr.length PB,nS,nS] gg (.slice cla (strs cl).length clc) wq)
     case atStart=>exact xd
     case round=>
      clear xd;obtain⟨acc,xs,f2,rc,v5,G,hO,R,hC,hm,zV,de,hB,gT⟩:=hrel;obtain⟨a5,c5,rfl⟩:=hO.form;unfold U7 at hm;by_cases hk:(dv rc==1)=true
      .rw[aI hk] at hm;have xi:(((aZ rc).k:Int)==1)=true:=by rw[oH] at hk;simp at hk|-;omega
       cases f2 with
       |zero=>cases hm
       |succ f2=>
       rw[qT] at hm;obtain⟨⟨x,q6⟩,iF,ir⟩:=aw.1 hm;obtain⟨⟨xs,q8⟩,T4,hx4⟩:=aw.1 ir
       cases hx4;dsimp only at T4;clear hm ir hk;revert R hB G hO hC de gT iF T4 zV;refine zQ ?_;intro R hB G hO hC de gT iF T4 zV;revert R hB hO hC;refine FX ?_;intro bC bX cU dz fZ iI w6 x1 y1 P6 K6 G6 PC R6 ZG hC6 pb;go_wp2_with fail;refine wpLive 8 (λV=>V.heap[w.heap.size]?=some (.cells #[pP C] 128 (0,0))/\V.cell? ⟨(w.heap.size+1+1),5,none⟩=some (sV a5 acc.length c5)) (λV s=>bc s.1 0) ?_ λFF ak=>?_
       .exact⟨G6.drew.box mf gU zU,G6.drew.cellAt 5⟩
       refine tkT 0 ?_;refine tkT 1 ?_;refine tkT 2 ?_;refine tkT 3 ?_;refine rdT 4 λK hK=>?_;go_simp;refine(Ot (C:=(C.dj (fo.map bF) fv Bd)) hV (F:=f2) bT (G6.drew).ps (hC6.kept ((Kept.refl aK _).drew) (λ_ _ _ e=>e)) (λb hb e=>by have h1:wb.heap.size<=B0:=nA.out;have h2:C.p < wb.heap.size:=G6.pw;have h3:=hb.1;change b=C.p at e;omega) kc.1 HB oQ iF).mono ?_;rintro e w5 ⟨⟨v,rfl,k,tk,fn,tn,tv,ts,rs,a2,a3,a6,a9,oN,nJ,a12,j7,m2,c2,m3,c3,m6,c6,m9,c9,m10,jI,m11,iE,m12,gh,m13,ft,rfl,asm⟩,P5,K5⟩;dsimp only;have KD:Kept (ch (C.dj (fo.map bF) fv Bd)) _ w5:=((Kept.refl (ch (C.dj (fo.map bF) fv Bd)) _).drew.trans' K5)
       have G5:=ah ((G6.drew).aB P5 K5);have auG:=ah (PC.kept KD (λb hb _ e=>by have h1:wb.heap.size<=B0:=nA.out;have h2:C.p < wb.heap.size:=G6.pw;have h3:B0<=b:=hb;change b=C.p at e;omega) (λb hb e=>by have h1:wb.heap.size<=B0:=nA.out;have h2:C.p < wb.heap.size:=G6.pw;have h3:=(PC.lt b hb).1;change b=C.p at e;omega));have R5:=ah (R6.kept KD gZ);have hC5:=ah (hC6.kept KD (λb hb _ e=>by have h1:wb.heap.size<=B0:=nA.out;have h2:C.p < wb.heap.size:=G6.pw;have h3:=hb.1;change b=C.p at e;omega));have abp:Hid (B0<=_):=ah ZG.out;have Uu:=ah (λb (e:Value.ownBlock (sV a5 acc.length c5)=some b)=>(PC.lt b e).2);have hB5:Hid (B0<=w5.heap.size):=ah (cn ZG.out KD.size);revert K hK asm KD;refine FG ?_;intro asm bC ak K hK eG kA PC hR6 avG;refine eh rfl (kb (P:=prog) underlying80 hi A6 cL dY rfl ab ab (.tmp 73) (.tmp 77) rfl rfl ⟨w5,0,none⟩ 1 rfl _ _ PC HR avG rfl eG hR6 ?_);revert auG R5 hC5 abp Uu hB5 asm K hK eG kA PC hR6 avG;refine Fp ?_;intro W' va vc c9 f9 hb9 hB9 hfp QE ak g6 o6 r6';have aeM:aeL (C.dj (fo.map bF) fv Bd) wb (w.heap.size+1+1) B0 F (w.heap.size+3) fe q8 ys cl (λu=>#[.string (bs nm),false,sV Fq fo.length BL,sV NO pa.length NP,sV Pz cr.length PB,u,nS]) [.str nm,false,fo,pa,cr,.sl [],.sl []] [.string (bs nm),false,sV Fq fo.length BL,sV NO pa.length NP,sV Pz cr.length PB,nS,nS] f2 (.slice cla (strs cl).length clc) (W'.setCell ⟨(w.heap.size+1+1),5,none⟩ (sV va (acc.length+1) vc)):=
        ⟨acc++[x],xs,f2,q6,_,g6,o6,r6',QE,T4,by rw[zV.out];simp,aM _,by have:=hB9.out;simp;omega,by have:=gT.out;omega⟩
       replace aeM:=ah aeM;clear g6 o6 r6' hfp QE ak c9 f9 hb9 hB9;go_wp2_with fail;go_roundg f2
       case measure=>have:=de.out;omega
       case rel=>exact aeM
      .rw[aE hk] at hm
       cases hm;have xi:(((aZ q7).k:Int)==1)=false:=by rw[oH] at hk;rw[M0];intro e;have e2:=eq_of_beq e;exact hk (dU.2 ab)
       clear hk;revert R hB hO hC zV G;refine LX ?_;intro R hB hO hC zV G;revert R hB hO hC;refine FX ?_;intro bC bX cU dz fZ iI w6 x1 y1 P6 K6 G6 PC R6 ZG hC6 pb;have aeN:aeK (C.dj (fo.map bF) fv Bd) wb (w.heap.size+1+1) B0 F (w.heap.size+3) fe q5 (λu=>#[.string (bs nm),false,sV Fq fo.length BL,sV NO pa.length NP,sV Pz cr.length PB,u,nS]) [.str nm,false,fo,pa,cr,.sl [],.sl []] [.string (bs nm),false,sV Fq fo.length BL,sV NO pa.length NP,sV Pz cr.length PB,nS,nS] (f+1) w6:=⟨acc,ys,f+1,q7,_,G6,PC,R6,hq5,by rw[zV.out];simp,aM _,ZG,ap0⟩
       replace aeN:=ah aeN;clear PC R6 hC6 ZG zV;go_wp2_with fail;go_roundg (f+1)
       case measure=>omega
       case rel=>exact aeN
    .rw[aE hc] at hm
     cases hm;have hc0:aO "feature" r7=false:=wI;rw[gp] at zV;subst zV;clear hc oV de gT;have RF:aP (λb=>w.heap.size+3<=b) wr ([.str nm,false,fo,pa,cr,.sl [],.sl []]) [.string (bs nm),false,sV Fq fo.length BL,sV NO pa.length NP,sV Pz cr.length PB,nS,nS]:=R.mono (λb hb _=>hb.1);have RF2:=RF.mR (hO.rC (S':=(λb=>w.heap.size+3<=b)) (λb hb _=>by have h1:B0<=b:=hb;have:=PE.out;have:=nA.out;have:=AR.out;omega) (λb hb _=>by have:=nA.out;have:=AR.out;omega)) 5;revert hc0 G RF2;refine jk ?_;intro hc0 G RF2;clear RF R hO hB;have pb:=bc (G.box mf gU zU) 0;go_wp2_with fail;refine bY (ew G.ps "feature" hc0) λw6 P6 K6=>?_;have G6:=ah (G.aB P6 K6);have R6:=ah (RF2.kept K6 AJ);clear RF2 pb;have pb:=bc (G6.box mf gU zU) 0;go_wp2_with fail;refine(aap (C:=(C.dj (fo.map bF) fv Bd)) (P:=λl=>cI F l) G6 "invariant" rfl h8 (λV1 hs GV hh=>ald hV GV mf gU zU rfl dx hh) bP).mono ?_;rintro e w7 ⟨rfl,iva,ivc,GT,sF,bQ,KT⟩;have hsV:=ah G6.out.kp.size;have G7:Hid (GR (C.dj (fo.map bF) fv Bd) wb (w.heap.size+1+1) r8 #[.string (bs nm),false,sV Fq fo.length BL,sV NO pa.length NP,sV Pz cr.length PB,sV a5 fe.length c5,sV iva iv.length ivc] 83 w7):=ah GT;have R7:Hid (aP (λb=>w.heap.size+3<=b) w7 [.str nm,false,fo,pa,cr,fe,iv] [.string (bs nm),false,sV Fq fo.length BL,sV NO pa.length NP,sV Pz cr.length PB,sV a5 fe.length c5,sV iva iv.length ivc]):=ah ((R6.kept KT vP).mR (sF.mono λb hb _=>by have:=hsV.out;have:=AR.out;omega) 6);clear R6 GT sF bQ KT hsV pb;have pb:=bc (G7.box mf gU zU) 0;go_wp2_with fail;refine bY (fj G7.ps "end" h9) λw8 P8 K8=>?_;have G8:=ah (G7.aB P8 K8);have R8:=ah (R7.kept K8 AJ);clear R7 pb;obtain⟨q0,q1,q2,q3,q4,q5,q6,-⟩:=cc (W:=w8) (b:=(w.heap.size+1+1)) G8.out.rc;go_wp2_with fail;refine(hD (λb=>w.heap.size+3<=b) _ _ ⟨_,_,_,_,_,_,_,_,_,_,_,_,_,_,_,_,rfl,R8⟩).mono ?_;rintro e w9 ⟨n40,rfl,ap1,K9⟩;have G9:=ah (G8.no K9);have R9:=ah (R8.kept K9 (λ_ _ _ e=>e));have auL:¬((n40:Int) > 40):=ab;clear R8 q0 q1 q2 q3 q4 q5 q6;obtain⟨q0,q1,q2,q3,q4,q5,q6,-⟩:=cc (W:=w9) (b:=(w.heap.size+1+1)) G9.out.rc;have UD:=G9.box hzx (show w.heap.size+1≠C.p by have:=eo.out;omega) (show w.heap.size+1≠(w.heap.size+1+1) by omega);obtain⟨z0,z1,z2,z3,z4,z5,z6,-⟩:=cc (W:=w9) (b:=w.heap.size+1) UD;have y0:∀j,w9.frozen? ⟨w.heap.size+1,j,none⟩=false:=al UD;replace UD:=ah UD;go_wp2_with fail;refine bG (v:=.agg #[.string (bs nm),false,sV Fq fo.length BL,sV NO pa.length NP,sV Pz cr.length PB,sV a5 fe.length c5,sV iva iv.length ivc]) (by simp[results,results95,go_sem,z0,z1,z2,z3,z4,z5,z6]) rfl ?_;have hk9:Kept (λk=>k=w.heap.size+1) w9 _:=((((((au (w.heap.size+1) 0 (.string (bs nm))).trans' (au _ 1 (.bool false))).trans' (au _ 2 (sV Fq fo.length BL))).trans' (au _ 3 (sV NO pa.length NP))).trans' (au _ 4 (sV Pz cr.length PB))).trans' (au _ 5 (sV a5 fe.length c5))).trans' (au _ 6 (sV iva iv.length ivc));have ap2:Kept (ch C) w w9:=KW.trans G9.kp (λb hb e=>e.elim (λe=>e) (λe=>absurd e ab));refine⟨⟨_,rfl,nm,Fq,NO,Pz,a5,iva,fo.length,BL,pa.length,NP,cr.length,PB,fe.length,c5,iv.length,ivc,rfl,?_⟩,⟨fo.map bF,fv,Bd,?_,?_⟩,ap2.trans hk9 bH⟩
     .exact(R9.kept hk9 dH).mono λb hb _=>by omega
     .refine G9.ps.aeJ hk9 (show ¬C.p=w.heap.size+1 by have:=eo.out;omega) (show ¬C.g=w.heap.size+1 by have:=apW.out;omega) ?_;have h1:=(hfl.kept G9.kp AB).kept hk9 hZ;exact h1.mono λb hb _=>⟨hb.2,show b≠C.p by have:=eo.out;have:=hb.1;omega⟩
     .have h1:=(hfl.kept G9.kp AB).kept hk9 hZ;exact h1.mono λb hb _=>⟨by have:=hb.1;omega,hb.2⟩
def aP.SW{w:YC}{fk tk:Int}{fn tn:Yz}{cl ags ta lo rq en bo rb:Zg}{tv ts rs:TG}(h:aP S w [fk,fn,cl,ags,tk,tn,ta,tv,ts,lo,rq,en,bo,rb,rs] cs):∃b2 e2 b3 e3 b6 e6 b9 e9 Pn zv Sb xU Sc Qz L8 QA,cs=[.int .i64 fk,.string (bs fn),.slice b2 cl.length e2,.slice b3 ags.length e3,.int .i64 tk,.string (bs tn),.slice b6 ta.length e6,.bool tv,.bool ts,.slice b9 lo.length e9,.slice Pn rq.length zv,.slice Sb en.length xU,.slice Sc bo.length Qz,.slice L8 rb.length QA,.bool rs]/\an S w (.sl cl) (.slice b2 cl.length e2)/\an S w (.sl ags) (.slice b3 ags.length e3)/\an S w (.sl ta) (.slice b6 ta.length e6)/\an S w (.sl lo) (.slice b9 lo.length e9)/\an S w (.sl rq) (.slice Pn rq.length zv)/\an S w (.sl en) (.slice Sb en.length xU)/\an S w (.sl bo) (.slice Sc bo.length Qz)/\an S w (.sl rb) (.slice L8 rb.length QA)/\cl.length<=maxLen/\ags.length<=maxLen/\ta.length<=maxLen/\lo.length<=maxLen/\rq.length<=maxLen/\en.length<=maxLen/\bo.length<=maxLen/\rb.length<=maxLen:=by obtain⟨c0,Ap,rfl,v0,h0⟩:=h.aG;obtain⟨c1,U6,rfl,v1,h1⟩:=h0.aG;obtain⟨c2,T3,rfl,v2,h2⟩:=h1.aG;obtain⟨c3,Sx,rfl,v3,h3⟩:=h2.aG;obtain⟨c4,cs4,rfl,v4,h4⟩:=h3.aG;obtain⟨c5,cs5,rfl,v5,h5⟩:=h4.aG;obtain⟨c6,cs6,rfl,v6,h6⟩:=h5.aG;obtain⟨c7,cs7,rfl,v7,h7⟩:=h6.aG;obtain⟨c8,cs8,rfl,v8,h8⟩:=h7.aG;obtain⟨c9,cs9,rfl,v9,h9⟩:=h8.aG;obtain⟨jI,ap8,rfl,v10,sG⟩:=h9.aG;obtain⟨iE,ap9,rfl,v11,Oq⟩:=sG.aG;obtain⟨gh,aqa,rfl,v12,Pp⟩:=Oq.aG;obtain⟨ft,aqb,rfl,v13,Ps⟩:=Pp.aG;obtain⟨js,aqc,rfl,v14,h14⟩:=Ps.aG;obtain⟨x2,y2,rfl,l2⟩:=v2.aU;obtain⟨x3,y3,rfl,l3⟩:=v3.aU;obtain⟨x6,y6,rfl,l6⟩:=v6.aU;obtain⟨x9,y9,rfl,l9⟩:=v9.aU;obtain⟨xC,y10,rfl,l10⟩:=v10.aU;obtain⟨zw,y11,rfl,l11⟩:=v11.aU;obtain⟨As,y12,rfl,l12⟩:=v12.aU;obtain⟨xw,y13,rfl,l13⟩:=v13.aU;exact⟨_,_,_,_,_,_,_,_,_,_,_,_,_,_,_,_,by rw[v0.fu,v1.bq,v4.fu,v5.bq,v7.iA,v8.iA,v14.iA,h14.jO];try rfl,v2,v3,v6,v9,v10,v11,v12,v13,l2,l3,l6,l9,l10,l11,l12,l13⟩
def aP.nl{w:YC}{dd:TG}{fo pa cr fe iv:Zg}(h:aP S w [nm,dd,fo,pa,cr,fe,iv] cs):∃a2 c2 a3 c3 a4 c4 a5 c5 a6 c6,cs=[.string (bs nm),.bool dd,.slice a2 fo.length c2,.slice a3 pa.length c3,.slice a4 cr.length c4,.slice a5 fe.length c5,.slice a6 iv.length c6]/\an S w (.sl fo) (.slice a2 fo.length c2)/\an S w (.sl pa) (.slice a3 pa.length c3)/\an S w (.sl cr) (.slice a4 cr.length c4)/\an S w (.sl fe) (.slice a5 fe.length c5)/\an S w (.sl iv) (.slice a6 iv.length c6)/\fo.length<=maxLen/\pa.length<=maxLen/\cr.length<=maxLen/\fe.length<=maxLen/\iv.length<=maxLen:=by obtain⟨c0,Ap,rfl,v0,h0⟩:=h.aG;obtain⟨c1,U6,rfl,v1,h1⟩:=h0.aG;obtain⟨c2,T3,rfl,v2,h2⟩:=h1.aG;obtain⟨c3,Sx,rfl,v3,h3⟩:=h2.aG;obtain⟨c4,cs4,rfl,v4,h4⟩:=h3.aG;obtain⟨c5,cs5,rfl,v5,h5⟩:=h4.aG;obtain⟨c6,cs6,rfl,v6,h6⟩:=h5.aG;obtain⟨x2,y2,rfl,l2⟩:=v2.aU;obtain⟨x3,y3,rfl,l3⟩:=v3.aU;obtain⟨x4,y4,rfl,l4⟩:=v4.aU;obtain⟨x5,y5,rfl,l5⟩:=v5.aU;obtain⟨x6,y6,rfl,l6⟩:=v6.aU;exact⟨_,_,_,_,_,_,_,_,_,_,by rw[v0.bq,v1.iA,h6.jO];try rfl,v2,v3,v4,v5,v6,l2,l3,l4,l5,l6⟩
def an.Mz{w:YC}(h:an S w (.sl []) v):∃a c,v=sV a 0 c:=by obtain⟨a,c,rfl,_⟩:=h.aU;exact⟨a,c,rfl⟩
def aP.SX{w:YC}{pn:Yz}{pl2 pl3 pl4 pl5:Zg}(h:aP S w [pn,.sl [],pl2,pl3,pl4,pl5] cs):∃p1 e1 p2 e2 p3 e3 p4 e4 p5 e5,cs=[.string (bs pn),.slice p1 0 e1,.slice p2 pl2.length e2,.slice p3 pl3.length e3,.slice p4 pl4.length e4,.slice p5 pl5.length e5]/\an S w (.sl []) (.slice p1 0 e1)/\an S w (.sl pl2) (.slice p2 pl2.length e2)/\an S w (.sl pl3) (.slice p3 pl3.length e3)/\an S w (.sl pl4) (.slice p4 pl4.length e4)/\an S w (.sl pl5) (.slice p5 pl5.length e5)/\pl2.length<=maxLen/\pl3.length<=maxLen/\pl4.length<=maxLen/\pl5.length<=maxLen:=by obtain⟨c0,Ap,rfl,v0,h0⟩:=h.aG;obtain⟨c1,U6,rfl,v1,h1⟩:=h0.aG;obtain⟨c2,T3,rfl,v2,h2⟩:=h1.aG;obtain⟨c3,Sx,rfl,v3,h3⟩:=h2.aG;obtain⟨c4,cs4,rfl,v4,h4⟩:=h3.aG;obtain⟨c5,cs5,rfl,v5,h5⟩:=h4.aG;obtain⟨x1,y1,rfl,l1⟩:=v1.aU;obtain⟨x2,y2,rfl,l2⟩:=v2.aU;obtain⟨x3,y3,rfl,l3⟩:=v3.aU;obtain⟨x4,y4,rfl,l4⟩:=v4.aU;obtain⟨x5,y5,rfl,l5⟩:=v5.aU;exact⟨_,_,_,_,_,_,_,_,_,_,by rw[v0.bq,h5.jO];try rfl,v1,v2,v3,v4,v5,l2,l3,l4,l5⟩
def abQ{f d:Nat}{tk tn ta tv ts:T}(h:By f [tk,tn,ta,tv,ts]=some d):∃k nm args v s,tk=.int k/\tn=.str nm/\ta=.sl args/\tv=.bool v/\ts=.bool s:=by obtain⟨k,nm,args,v,s,e⟩:=lf h;injection e with e1 e;injection e with e2 e;injection e with e3 e;injection e with e4 e;injection e with e5 e;exact⟨k,nm,args,v,s,e1,e2,e3,e4,e5⟩
def OB{f m:Nat}{row:Row}(h:aia f n row=some m):∃fk fn cl ags tk tn ta tv ts lo rq en bo rb rs d1 d2 d3 d4 d5,row=[.int fk,.str fn,.sl cl,.sl ags,.int tk,.str tn,.sl ta,.bool tv,.bool ts,.sl lo,.sl rq,.sl en,.sl bo,.sl rb,.bool rs]/\By f [.int tk,.str tn,.sl ta,.bool tv,.bool ts]=some d1/\fG (Pq f) 0 rq=some d2/\fG (Pq f) 0 en=some d3/\fG (BO f) 0 bo=some d4/\fG (BO f) 0 rb=some d5/\ags.length+lo.length<=1000/\fG (avf f) (max (max (max (max (max n d1) d2) d3) d4) d5) (ags++lo)=some m:=by
 unfold aia at h;split at h
 .obtain⟨d1,h1,x1⟩:=aw.1 h;obtain⟨d2,h2,x2⟩:=aw.1 x1;obtain⟨d3,h3,x3⟩:=aw.1 x2;obtain⟨d4,h4,x4⟩:=aw.1 x3;obtain⟨d5,h5,x5⟩:=aw.1 x4;split at x5
  .rename_i hl;obtain⟨k,nm,args,v,s,rfl,rfl,rfl,rfl,rfl⟩:=abQ h1;exact⟨_,_,_,_,_,_,_,_,_,_,_,_,_,_,_,d1,d2,d3,d4,d5,rfl,h1,h2,h3,h4,h5,hl,x5⟩
  .cases x5
 .cases h
def zI{g:Row->Option Nat}:∀{l:Zg} {n N:Nat},fG g n l=some N->∀r∈l,∃d,g r=some d
 |[],_,_,_=>by simp
 |x::xs,n,N,h=>by
  obtain⟨d,hd,h2⟩:=aw.1 h;intro r hr;rcases cZ.1 hr with rfl|hr
  .exact⟨d,hd⟩
  .exact zI h2 r hr
def aih{f:Nat}(h:fG (avf f) n l=some N):∀r∈l,r.length=6:=by intro r hr;obtain⟨d,hd⟩:=zI h r hr;obtain⟨t,k,nm,args,v,s,rfl⟩:=zA hd;rfl
def zJ{n N:Nat}:∀{l:Zg},dPa n l=some N->n=N/\∀r∈l,∃pn pl2 pl3 pl4 pl5,r=[.str pn,.sl [],.sl pl2,.sl pl3,.sl pl4,.sl pl5]
 |[],h=>by cases h;exact⟨rfl,by simp⟩
 |x::xs,h=>by
  unfold dPa at h;split at h
  .rename_i e;cases e
  .rename_i e;cases e;obtain⟨h1,h2⟩:=zJ h;refine⟨h1,λr hr=>?_⟩;rcases cZ.1 hr with rfl|hr
   .exact⟨_,_,_,_,_,rfl⟩
   .exact h2 r hr
  .cases h
def an9(w:YC)(pa:Zg)(N gg:Nat)(s3 s18:YE)(wr:YC):Prop:=∃k:Nat,s18=iV k/\s3=iV N/\k+gg=pa.length/\Kept aK w wr
def alr(w:YC)(f:Nat)(fe:Zg)(N gg:Nat)(s3 s38:YE)(wr:YC):Prop:=
 ∃k n:Nat,s38=iV k/\s3=iV n/\k+gg=fe.length/\dFe f n (fe.drop k)=some N/\Kept aK w wr/\n<=6000
def Vb{f:Nat}{k:Nat}(h:dFe f n (rows.drop k)=some N)(hk:k < rows.length):∃row m,rows[k]?=some row/\aia f n row=some m/\dFe f m (rows.drop (k+1))=some N:=by exact DK
def Im{f:Nat}{row:Row}(h:Ou f row=some n):∃nm dd fo pa cr fe iv n0,row=[.str nm,.bool dd,.sl fo,.sl pa,.sl cr,.sl fe,.sl iv]/\fG (Pq f) 0 iv=some n0/\dPa n0 pa=some n0/\dFe f n0 fe=some n:=by
 unfold Ou at h;split at h
 .obtain⟨n0,h1,h⟩:=aw.1 h;obtain⟨n1,h2,h⟩:=aw.1 h;obtain⟨rfl,_⟩:=zJ h2;exact⟨_,_,_,_,_,_,_,n0,rfl,h1,h2,h⟩
 .cases h
def Vc{f:Nat}(hf:f<=6000){S:Wq}{w:YC}{row:Row}{N:Nat}{cs:YT}(hd:Ou f row=some N)(hR:aP S w row cs):Calls prog 185 #[.agg cs.toArray] w λe w'=>e=.returned (iV N)/\Kept aK w w':=by
 obtain⟨nm,dd,fo,pa,cr,fe,iv,n0,rfl,h1,h2,h3⟩:=Im hd;obtain⟨a2,c2,a3,c3,a4,c4,a5,c5,a6,c6,rfl,v2,v3,v4,v5,v6,l2,l3,l4,l5,l6⟩:=hR.nl;obtain⟨-,hpa⟩:=zJ h2;have nz:n0<=6000:=fl (λr n h=>cn (yF h) hf) (dE _) h1;have als:pa.length<=9223372036854775807:=l3;have aqd:fe.length<=9223372036854775807:=l5;have K0:Kept aK w (w.alloc (cO #[nm,dd,sV a2 fo.length c2,sV a3 pa.length c3,sV a4 cr.length c4,sV a5 fe.length c5,sV a6 iv.length c6] 83)):=(Kept.refl aK w).alloc _;have mf:(w.alloc (cO #[nm,dd,sV a2 fo.length c2,sV a3 pa.length c3,sV a4 cr.length c4,sV a5 fe.length c5,sV a6 iv.length c6] 83)).heap[w.heap.size]?=some (.cells #[nm,dd,sV a2 fo.length c2,sV a3 pa.length c3,sV a4 cr.length c4,sV a5 fe.length c5,sV a6 iv.length c6] 83 (0,0)):=ao;obtain⟨bc,QG⟩:∃b,b=w.heap.size:=⟨_,rfl⟩
 rw[<-QG] at mf;have b3:=aC mf 3;have b5:=aC mf 5;have b6:=aC mf 6;clear hd hR v2 v4 l2 l4 h2;revert h1 h3 v3 v5 v6 l6 hpa K0 mf QG;refine zQ ?_;intro h1 h3 v3 v5 v6 l6 hpa K0 mf QG;go_enter func185,ntmps185;go_wp2_with fail;refine bD ((SK hf (zD f hf)) h1 (v6.kept K0 (λ_ _ _ e=>e))) λw1 K1=>?_;have lL:=aJ mf K1;have b3:w1.cell? ⟨w,3,none⟩=(some (sV a3 pa.length c3):Option Value):=QG.out▸aC lL 3;have Io:=ah (K0.trans' K1);replace lL:=ah lL;clear b5 b6;go_wp2_with fail;go_loopg [3,18] pa.length (λgg s3 s18 wr=>an9 w pa n0 gg s3 s18 wr/\wr.heap[bc]?=some (.cells #[nm,dd,sV a2 fo.length c2,sV a3 pa.length c3,sV a4 cr.length c4,sV a5 fe.length c5,sV a6 iv.length c6] 83 (0,0)))
 case atStart=>exact⟨⟨0,rfl,rfl,by omega,Io⟩,lL⟩
 case round=>
  obtain⟨⟨j,rfl,rfl,zC,hK⟩,Il⟩:=hrel;clear lL b3;by_cases hj:j < pa.length
  .obtain⟨x,hx⟩:∃x,pa[j]?=some x:=⟨_,ck hj⟩
   obtain⟨pn,pl2,pl3,pl4,pl5,rfl⟩:=hpa.out x (cm hx);obtain⟨g,off,rfl,-,NY,hR,fY⟩:=v3.out.elem hx;obtain⟨p1,e1,p2,e2,p3,e3,p4,e4,p5,e5,rfl,-⟩:=hR.SX;refine GQ ?_;intro de;obtain⟨q0,q1,q2,q3,q4,q5,-⟩:=hc (o:=off+j*6) λk _ e=>de (fY k _ e);have jS:(j:Int) < (pa.length:Int):=ab;have sQ:(0:Int)<=(j:Int):=ab;have gu:=ah (hK.alloc (cO #[pn,sV p1 0 e1,sV p2 pl2.length e2,sV p3 pl3.length e3,sV p4 pl4.length e4,sV p5 pl5.length e5] 171));have jy:=ah (aD (x:=cO #[pn,sV p1 0 e1,sV p2 pl2.length e2,sV p3 pl3.length e3,sV p4 pl4.length e4,sV p5 pl5.length e5] 171) Il);clear fY de hR Il;replace hx:=ah hx;go_wp2_with fail;obtain⟨G0,hG0⟩:∃G,G=gk:=⟨_,rfl⟩
   obtain⟨wb,hwb⟩:∃W,W=wr.alloc (cO #[pn,sV p1 0 e1,sV p2 pl2.length e2,sV p3 pl3.length e3,sV p4 pl4.length e4,sV p5 pl5.length e5] 171):=⟨_,rfl⟩
   rw[<-hwb] at gu jy|-;clear hwb;go_loopg [3,25] 0 (λgg s3 s25 w2=>s3=iV n0/\s25=iV 0/\w2=wb)
   case atStart=>exact⟨rfl,rfl,rfl⟩
   case round=>
    obtain⟨rfl,rfl,rfl⟩:=hrel;go_wp2_with fail;go_roundg (G0 - 1)
    case measure=>omega
    case rel=>exact⟨⟨j+1,rfl,rfl,by omega,gu⟩,jy⟩
  .have QB:j=pa.length:=by omega
   have jS:¬((j:Int) < (pa.length:Int)):=ab;have b5:wr.cell? ⟨w,5,none⟩=(some (sV a5 fe.length c5):Option Value):=QG.out▸aC Il 5;replace hK:=ah hK;clear Il;go_wp2_with fail;go_loopg [3,38] fe.length (λgg s3 s38 wr=>alr w f fe N gg s3 s38 wr)
   case atStart=>exact⟨0,n0,rfl,rfl,by omega,by simpa using h3.out,hK.out,nz⟩
   case round=>
    clear hj QB jS zC b5;obtain⟨j,n,rfl,rfl,zC,cg,hK,hn⟩:=hrel;by_cases hj:j < fe.length
    .obtain⟨row,m,aL,lG,fy⟩:=Vb cg hj;obtain⟨g,off,rfl,-,NY,hR,fY⟩:=v5.out.elem aL;obtain⟨fk,fn,cl,ags,tk,tn,ta,tv,ts,lo,rq,en,bo,rb,rs,d1,d2,d3,d4,d5,rfl,e1,e2',e3',e4',e5',hlen,Cj⟩:=OB lG;obtain⟨b2,e2,b3,e3,b6,e6,b9,e9,Pn,zv,Sb,xU,Sc,Qz,L8,QA,rfl,u2,u3,u6,u9,QQ,QR,U3,U4,-⟩:=hR.SW;have de:∀{i u},w.cell? ⟨g,i,none⟩=some u->wr.cell? ⟨g,i,none⟩=some u:=λh=>(hK.cell (cA w _ h) (λe=>e)).trans h;obtain⟨q0,q1,q2,q3,q4,q5,q6,q7,q8,q9,q10,q11,q12,q13,q14,-⟩:=hc (o:=off+j*15) λk _ e=>de (fY k _ e);have jS:(j:Int) < (fe.length:Int):=ab;have sQ:(0:Int)<=(j:Int):=ab;obtain⟨M,hMe⟩:∃M,M=max (max (max (max (max n d1) d2) d3) d4) d5:=⟨_,rfl⟩
     rw[<-hMe] at Cj;have tj:=aih Cj;obtain⟨vs,hvs⟩:∃l,l=ags++lo:=⟨_,rfl⟩
     rw[<-hvs] at Cj;replace hvs:=ah hvs;have hM6:M<=6000:=by refine Gp ?_;intro x1 x2 x3 x4 x5;omega
     refine GF ?_;intro ut nB;obtain⟨bx,asb⟩:∃bx,bx=wr.heap.size:=⟨_,rfl⟩
     rw[<-asb] at nB;refine GK ?_;intro gu;clear fY de hR lG cg u2 u6;revert hK fy aL e1 e2' e3' e4' e5' u3 u9 QQ QR U3 U4 hMe tj Cj ut nB asb;refine apq ?_;intro hK fy aL e1 e2' e3' e4' e5' u3 u9 QQ QR U3 U4 hMe tj Cj ut nB asb;go_wp2_with fail;rw[<-asb.out];refine wpLive 16 (λV=>V.heap[bx]?=some (.cells #[fk,fn,sV b2 cl.length e2,sV b3 ags.length e3,tk,tn,sV b6 ta.length e6,tv,ts,sV b9 lo.length e9,sV Pn rq.length zv,sV Sb en.length xU,sV Sc bo.length Qz,sV L8 rb.length QA,rs] 149 (0,0))) (λV s=>And.intro (Bm.bc s 4) (And.intro (Bm.bc s 5) (And.intro (Bm.bc s 6) (And.intro (Bm.bc s 7) (And.intro (Bm.bc s 8) (And.intro (Bm.bc s 10) (And.intro (Bm.bc s 11) (And.intro (Bm.bc s 12) (Bm.bc s 13))))))))) ?_ λFF ak=>?_
     .exact nB
     refine tkT 0 ?_;refine tkT 1 ?_;refine tkT 2 ?_;refine tkT 4 ?_;refine tkT 5 ?_;refine tkT 7 ?_;refine tkT 8 ?_;refine tkT 10 ?_;refine tkT 11 ?_;refine tkT 13 ?_;refine tkT 14 ?_;refine rdT 3 λK hK=>?_;go_simp;refine bD ((SJ f hf) e1 (ut.kept gu.drew (λ_ _ _ e=>e))) λw3 K3=>?_;dsimp only;refine hK _ _ ((K3.block _ (aQ.1 ak).1 (λe=>e)).trans ak) (λak=>?_);clear hK K;refine sp ?_;refine rdT 6 λK hK=>?_;go_simp;refine bD ((SK hf (zD f hf)) e2' (QQ.kept (gu.drew.trans' K3) (λ_ _ _ e=>e))) λw6 K6=>?_;dsimp only;refine hK _ _ ((K6.block _ (aQ.1 ak).1 (λe=>e)).trans ak) (λak=>?_);clear hK K;refine sp ?_;refine rdT 9 λK hK=>?_;go_simp;refine bD ((SK hf (zD f hf)) e3' (QR.kept ((gu.drew.trans' K3).trans' K6) (λ_ _ _ e=>e))) λw9 K9=>?_;dsimp only;refine hK _ _ ((K9.block _ (aQ.1 ak).1 (λe=>e)).trans ak) (λak=>?_);clear hK K;refine sp ?_;refine rdT 12 λK hK=>?_;go_simp;refine bD ((aaq f hf) e4' (U3.kept (((gu.drew.trans' K3).trans' K6).trans' K9) (λ_ _ _ e=>e))) λvl SQ=>?_;dsimp only;refine hK _ _ ((SQ.block _ (aQ.1 ak).1 (λe=>e)).trans ak) (λak=>?_);clear hK K;refine sp ?_;refine rdT 15 λK hK=>?_;go_simp;refine bD ((aaq f hf) e5' (U4.kept ((((gu.drew.trans' K3).trans' K6).trans' K9).trans' SQ) (λ_ _ _ e=>e))) λWM K15=>?_;dsimp only;refine hK _ _ ((K15.block _ (aQ.1 ak).1 (λe=>e)).trans ak) (λak=>?_);clear hK K;refine sp ?_;refine ddT 16 λK hK=>?_;refine eh rfl (Jr rfl n [d1,d2,d3,d4,d5] rfl hMe.symm ?_);refine hK _ _ ?_;clear hK K;refine sp ?_;refine ddT 17 λK hK=>?_;revert K hK;refine j9 ?_;have hK5:=ah (((((gu.drew.trans' K3).trans' K6).trans' K9).trans' SQ).trans' K15);obtain⟨-,-,-,y3,-,-,-,-,-,y5,-⟩:=cc (W:=WM) (b:=bx) ak;clear ak;obtain⟨G0,hG0⟩:∃G,G=gk:=⟨_,rfl⟩
     go_wp2_with fail;have hK6:=hK5.alloc (cO #[sV b3 ags.length e3,sV b9 lo.length e9] 143);refine(abP (u3.kept hK6 (λ_ _ _ e=>e)) (u9.kept hK6 (λ_ _ _ e=>e)) (by first|exact eH (cs:=[sV b3 ags.length e3,sV b9 lo.length e9]) 0 _ rfl|(have:=eH (w:=WM) (T:=143) (cs:=[sV b3 ags.length e3,sV b9 lo.length e9]) 0 _ rfl;simpa using this)) (by have:=eH (w:=WM) (T:=143) (cs:=[sV b3 ags.length e3,sV b9 lo.length e9]) 1 _ rfl;simpa using this) (λr hr=>tj.out r (by simp[hr])) (λr hr=>tj.out r (by simp[hr])) ab ab).mono ?_;rintro e wc ⟨v,rfl,hvc,Kc⟩;rw[<-hvs.out] at hvc;obtain⟨ac,cc,rfl,aqe⟩:=hvc.aU;have hKc:=ah (hK6.trans' Kc);replace hvc:=ah hvc;have aln:∀(r:Row) (n:Nat),avf f r=some n->n<=6000:=λr n h=>cn (Sy h) hf;clear Kc;go_wp2_with fail;go_loopg [3,66] vs.length (λgg s3 s66 wr=>qS wc (avf f) vs m 6000 gg s3 s66 wr)
     case atStart=>exact⟨0,M,rfl,rfl,by omega,by simpa using Cj.out,Kept.refl aK wc,hM6⟩
     case round=>
      obtain⟨ji,ni,rfl,rfl,hig,Va,zF,hni⟩:=hrel;have ap3:vs.length<=9223372036854775807:=aqe;by_cases hi:ji < vs.length
      .obtain⟨ap4,di,Oy,Oz,Jt⟩:=iB Va hi;obtain⟨gi,alo,rfl,-,csi,hRi,aie⟩:=hvc.out.elem Oy;have ap5:=aln _ _ Oz;obtain⟨kt,kk,kn,kd,kv,ks,rfl⟩:=zA Oz;obtain⟨a',m',c',rfl⟩:=hRi.My;have aif:∀{i u},wc.cell? ⟨gi,i,none⟩=some u->wr.cell? ⟨gi,i,none⟩=some u:=λh=>(zF.cell (cA wc _ h) (λe=>e)).trans h;obtain⟨q0,q1,q2,q3,q4,q5,-⟩:=hc (o:=alo+ji*6) λk _ e=>aif (aie k _ e);have hi1:(ji:Int) < (vs.length:Int):=ab;have hi2:(0:Int)<=(ji:Int):=ab;clear aie aif;revert zF Jt Oy Oz hRi;refine nx ?_;intro zF Jt Oy Oz hRi;clear Va;go_wp2_with fail;have abN:=zF.alloc (cO #[kt,kk,kn,sV a' m' c',kv,ks] 237);refine bD (((SJ f hf)) Oz (hRi.kept abN (λ_ _ _ e=>e)).tail) λwi1 Ki1=>?_;have aeS:=ah (abN.trans' Ki1);clear abN Ki1;by_cases Ij:ni < di
       .have X6:max ni di=di:=by omega
        have hmz:max (ni:Int) (di:Int)=(di:Int):=ab;rw[X6] at Jt;go_wp2_with fail;go_roundg (gk - 1)
        case measure=>omega
        case rel=>exact⟨ji+1,di,rfl,rfl,by omega,Jt,aeS,by omega⟩
       .have X6:max ni di=ni:=by omega
        have hmz:max (ni:Int) (di:Int)=(ni:Int):=ab;rw[X6] at Jt;go_wp2_with fail;go_roundg (gk - 1)
        case measure=>omega
        case rel=>exact⟨ji+1,ni,rfl,rfl,by omega,Jt,aeS,by omega⟩
      .have hil:ji=vs.length:=by omega
       rw[sL ab] at Va
       cases Va;have hi1:¬((ji:Int) < (vs.length:Int)):=ab;replace zF:=ah zF;have hK9:=hKc.trans' zF;go_wp2_with fail;go_roundg (G0 - 1)
       case measure=>omega
       case rel=>exact⟨j+1,m,rfl,rfl,by omega,fy,hK9,hni⟩
    exact Kn
def Ip:Row->Bool
 |[.str nm,.bool _,.sl fo,.sl pa,.sl _,.sl fe,.sl _]=>
  !(zX.contains nm)&&(fo.all λx=>match x with|[.str a,.str b]=>!(zX.contains a)&&!(zW.contains b)&&a.all (λc=>decide (c < 256))|_=>false)&&
  (pa.all λx=>match x with|.str a::_=>!(zW.contains a)|_=>false)&&decide (fe.length<=1000000)
 |_=>false
def LI{F:Nat}{l r:Zi}{row:Row}(h:iw F l=some (row,r))(ho:Ip row=true):∃(r1 r2 r3 r5 r6 r7 r8:Zi) (nm:Yz) (fo pa cr fe iv:Zg),cK "class" l=some r1/\word 2 r1=some (nm,r2)/\zX.contains nm=false/\(if aO "[" r2=true then((ld r2.tail).bind λx=>(cK "]" x.2).bind λy=>some ([x.1],y)) else some ([],r2))=some (fo,r3)/\(∀s∈fo.map bF,bW s)/\(if aO "inherit" r3=true then((nc F r3.tail).bind λx=>if dv x.2==2 then none else some ([x.1],x.2)) else some ([],r3))=some (pa,r5)/\((∃x,pa=[x])->∀nm r1,word 2 r3.tail=some (nm,r1)->zW.contains nm=false)/\(if aO "create" r5=true then((fB 1 F r5.tail).bind λx=>some (strs x.1,x.2)) else some ([],r5))=some (cr,r6)/\qm (fo.map bF) F r6=some (fe,r7)/\fe.length<=1000000/\(if aO "invariant" r7=true then cI F r7.tail else some ([],r7))=some (iv,r8)/\cK "end" r8=some r/\row=[.str nm,.bool false,.sl fo,.sl pa,.sl cr,.sl fe,.sl iv]:=by
 simp only[iw,cF,UI] at h;obtain⟨r1,h1,h⟩:=aw.1 h;obtain⟨⟨nm,r2⟩,h2,h⟩:=aw.1 h;obtain⟨⟨fo,r3⟩,h3,h⟩:=aw.1 h;obtain⟨⟨pa,r5⟩,h5,h⟩:=aw.1 h;obtain⟨⟨cr,r6⟩,h6,h⟩:=aw.1 h;obtain⟨⟨fe,r7⟩,h7,h⟩:=aw.1 h;obtain⟨⟨iv,r8⟩,h8,h⟩:=aw.1 h;obtain⟨r9,h9,h⟩:=aw.1 h
 cases h;dsimp only at h3 h5 h6 h7 h8 h9 ho;simp only[Ip,dD,oM,xQ] at ho;obtain⟨⟨⟨o1,o2⟩,o3⟩,o4⟩:=ho;have aeZ:(fo.map λp=>([T.str p.1,T.str p.2]:Row)).map bF=fo.map (·.1):=by rw[AY];rfl
 refine⟨r1,r2,r3,r5,r6,r7,r8,nm,fo.map (λp=>[.str p.1,.str p.2]),pa,strs cr,fe,iv,h1,h2,o1,?_,?_,h5,?_,?_,?_,o4,h8,h9,rfl⟩
 .split at h3
  .rename_i hc;rw[aI hc];obtain⟨⟨x,q1⟩,e1,h3⟩:=aw.1 h3;obtain⟨q2,e2,h3⟩:=aw.1 h3;obtain⟨⟨b,q3⟩,e3,h3⟩:=aw.1 h3;obtain⟨q4,e4,h3⟩:=aw.1 h3
   cases h3;dsimp only at e2 e3 e4;simp only[lp,xK,tD,List.all_nil,Bool.and_true,dD,xQ] at o2;unfold ld;rw[e1];simp only[Ae,e2,e3];rw[aE (by rw[o2.1.1,o2.1.2];simp)];simp[e4]
  .rename_i hc
   cases h3;rw[aE hc];rfl
 .intro s hs;rw[aeZ] at hs;obtain⟨p,hp,rfl⟩:=dO.1 hs;have:=dV.1 o2 [.str p.1,.str p.2] (dO.2 ⟨p,hp,rfl⟩);simp only[dD] at this;exact aV this.2
 .rintro⟨x,rfl⟩ zt r1' hw;split at h5
  .obtain⟨⟨y,q1⟩,e1,h5⟩:=aw.1 h5;dsimp only at h5;split at h5
   .cases h5
   .cases h5;simp only[nc,cF] at e1;rw[hw] at e1;simp only[Ae] at e1;split at e1
    .cases e1
    .obtain⟨⟨re,q2⟩,e2,e1⟩:=aw.1 e1;obtain⟨q3,e3,e1⟩:=aw.1 e1
     cases e1;simpa using o3
  .cases h5
 .split at h6
  .rename_i hc;rw[aI hc,h6];rfl
  .rename_i hc
   cases h6;rw[aE hc];rfl
 .rw[aeZ];exact h7
def T0(f:Nat)(row:Row):Bool:=Ip row&&match Ou f row with|some n=>decide (n<=40)|none=>false
def abR{f:Nat}(hf:f<=6000){row:Row}(h:T0 f row=true):Ii 185 row:=by
 unfold T0 at h;rw[dD] at h;obtain⟨_,h⟩:=h;split at h
 .rename_i n hn;intro S w v hv;obtain⟨nm,a2,a3,a4,a5,a6,m2,c2,m3,c3,m4,c4,m5,c5,m6,c6,rfl,hR⟩:=hv;exact(Vc hf hn hR).mono λe w' ⟨h1,h2⟩=>⟨n,h1,by simpa using h,h2⟩
 .cases h
def Vd(hV:dT){F f:Nat}(dx:F<=6000)(hf:f<=6000){C:Ctx}{w:YC}{l r:Zi}{row:Row}(h:PS C w l)(hx:iw F l=some (row,r))(ho:T0 f row=true):Calls prog 95 #[pP C] w (Sz C row r w):=by have hD:=abR hf ho;have hN:Ip row=true:=Hj;obtain⟨r1,r2,r3,r5,r6,r7,r8,nm,fo,pa,cr,fe,iv,h1,h2,hn4,h3,oQ,h5,hpn,h6,h7,hfe,h8,h9,rfl⟩:=LI hx hN;exact alh hV dx h h1 h2 hn4 h3 oQ h5 hpn h6 h7 hfe h8 h9 hD
def Aa(F f:Nat):Nat->List aF->Option (List Row)
 |0,_=>none
 |n+1,l=>if l.isEmpty then some [] else(iw F l).bind λx=>if T0 f x.1 then(Aa F f n x.2).bind λxs=>some (x.1::xs) else none
def asL(W w:YC)(v:YE)(rows:Zg):Prop:=OwnR W.heap.size (λb=>W.heap.size<=b) w 83 7 v rows
def asL.kept{W w w':YC}{v:YE}{rows:Zg}{F:Wq}(h:asL W w v rows)(hk:Kept F w w')(hF:∀b,W.heap.size<=b->b < w.heap.size->¬F b):asL W w' v rows:=
 OwnR.kept h hk hF λb e=>hF b (OwnR.lt h b e).1 (OwnR.lt h b e).2
def asL.mono{W W' w:YC}{v:YE}{rows:Zg}(h:asL W w v rows)(hS:∀b,W.heap.size<=b->b < w.heap.size->W'.heap.size<=b):asL W' w v rows:=by
 obtain⟨css,h1,h2,h3⟩:=OwnR.mono (S':=λb=>W'.heap.size<=b) h hS;refine⟨css,h1,h2,?_⟩;rcases h3 with h3|⟨g,cap,cur,e,hb,hg,h4⟩
 .exact .inl h3
 .exact .inr ⟨g,cap,cur,e,hS g hb (aQ.1 hg).1,hg,h4⟩
def asL.cell{W w:YC}(h:asL W w v rows):an W w (.sl rows) v:=OwnR.rC h (λ_ hb _=>hb) λ_ hb _=>hb
def asL.nil(W w:YC):asL W w nS []:=OwnR.nil
def alu:(prog.info? 83).map (λi=>(i.zero,i.size,i.bytes))=some (some (.agg zCl),7,144):=by kernel_rfl
def X7(C:Ctx)(w:YC)(F f:Nat)(rows:Zg)(gg:Nat)(s3:YE)(wr:YC):Prop:=
 ∃(acc xs:Zg) (n:Nat) (rc:Zi) (fs:Y9) (fv:YE) (Bd:Nat),PS (C.dj fs fv Bd) wr rc/\OwnR w.heap.size w wr 83 7 s3 acc/\Kept (ch C) w wr/\Aa F f n rc=some xs/\rows=acc++xs/\n<=gg
def abS(hV:dT){F f:Nat}(dx:F<=6000)(I9:f<=6000){C:Ctx}{w:YC}{l:Zi}{rows:Zg}{N:Nat}(h:PS C w l)(hx:Aa F f N l=some rows)(OC:rows.length<=24):Calls prog 64 #[pP C] w λe w'=>(∃a c,e=.returned (sV a rows.length c)/\asL w w' (sV a rows.length c) rows/\∀row∈rows,row.length=7)/\(∃(fs:Y9) (fv:YE) (Bd:Nat),PS (C.dj fs fv Bd) w' [])/\Kept (ch C) w w':=by
 obtain⟨i83,hi,A6,cL,dY⟩:=dN alu;have eo:=ah (eP h);have hgw:Hid (C.g < w.heap.size):=ah (by have:=h.gb;have:=h.bd;omega);have jr:Hid (X7 C w F f rows N (sV none 0 0) w):=ah ⟨[],rows,N,l,C.fs,C.fv,C.Bd,h,.nil,Kept.refl _ _,hx,rfl,aM _⟩;revert OC hi A6 cL dY;refine nx ?_;intro OC hi A6 cL dY;clear h hx;go_enter func64,ntmps64;go_wp2_with fail;go_loopg [3] N (λgg s3 wr=>X7 C w F f rows gg s3 wr)
 case atStart=>exact jr
 case round=>
  obtain⟨acc,xs,n,rc,fs,fv,Bd,P,hO,K,hm,aN,Qa⟩:=hrel;obtain⟨a3,alv,rfl⟩:=hO.form
  cases n with
  |zero=>cases hm
  |succ n=>
  obtain⟨cap,c0,-⟩:=P.c0;obtain⟨n0,nz,-,c1⟩:=P.c1;have hlen:=P.len;simp only[Aa] at hm;by_cases hc:rc.isEmpty=true
  .rw[aI hc] at hm
   cases hm;rw[gp] at aN;subst aN;have Po:rc=[]:=wI;subst Po;have bQ:¬((n0:Int) < (C.L.length:Int)):=by simp at nz;omega
   revert K hO P;refine jk ?_;intro K hO P;clear jr hc nz hlen;go_wp2_with fail;refine wpLive 9 (λV=>V.cell? ⟨C.p,0,none⟩=some (sV C.ga C.L.length cap)/\V.cell? ⟨C.p,1,none⟩=some (iV n0)) (λV s=>s) ?_ λFF ak=>?_
   .exact⟨c0,c1⟩
   refine tkT 0 ?_;refine tkT 1 ?_;refine tkT 2 ?_;refine tkT 3 ?_;refine tkT 4 ?_;refine tkT 5 ?_;refine tkT 6 ?_;refine tkT 7 ?_;refine tkT 8 ?_;refine ddT 9 λK hK=>?_;go_simp;refine hK _ _ ?_;clear hK K;refine sp ?_;refine dnT ?_;go_wp2_with fail;go_ret;exact⟨⟨_,_,rfl,asL.kept hO ((Kept.refl aK wr).drew) (λ_ _ _ e=>e),hO.lens⟩,⟨_,_,_,P.drew⟩,K.drew⟩
  .rw[aE hc] at hm;obtain⟨⟨x,r1⟩,hx,cg⟩:=aw.1 hm;dsimp only at cg;by_cases bL:T0 f x=true
   .rw[aI bL] at cg;obtain⟨ys,hy,fy⟩:=aw.1 cg
    cases fy;have bQ:((n0:Int) < (C.L.length:Int)):=by
     cases rc with
     |nil=>simp at hc
     |cons t r=>simp at nz;omega
    have h24:acc.length+1<=24:=by have h1:=gq List.length aN;simp at h1;have:=OC.out;omega
    have cR:((acc.length:Int)==24)=false:=cX;revert P K hO Qa hx bL hy aN;refine TR ?_;intro P K hO Qa hx bL hy aN;clear hm cg jr hc nz hlen;go_wp2_with fail;refine wpLive 9 (λV=>V.cell? ⟨C.p,0,none⟩=some (sV C.ga C.L.length cap)/\V.cell? ⟨C.p,1,none⟩=some (iV n0)) (λV s=>s) ?_ λFF ak=>?_
    .exact⟨c0,c1⟩
    refine tkT 0 ?_;refine tkT 1 ?_;refine tkT 2 ?_;refine tkT 3 ?_;refine tkT 4 ?_;refine tkT 5 ?_;refine tkT 6 ?_;refine tkT 7 ?_;refine tkT 8 ?_;refine ddT 9 λK hK=>?_;go_simp;refine hK _ _ ?_;clear hK K;refine sp ?_;refine dnT ?_;have PD:=P.drew;go_wp2_with fail;refine(Vd hV dx I9 PD hx bL).mono ?_;rintro e w1 ⟨⟨v,rfl,nm,a2,a3x,a4,a5,a6,m2,c2,m3,c3,m4,c4,m5,c5,m6,c6,rfl,hR⟩,⟨fs',fv',Bd',P1,hfl⟩,K1⟩;have KD:Kept (ch C) wr w1:=(Kept.refl (ch C) wr).drew.trans' K1;have KA:=K.trans' KD;have U8:=hO.kept KD (λb hb _ e=>by have:=eo.out;have h2:w.heap.size<=b:=hb;change b=C.p at e;omega) (λb hb e=>by have:=eo.out;have:=(hO.lt b hb).1;change b=C.p at e;omega);have xD:=K.size;have ep:∀b,Value.ownBlock (sV a3 acc.length alv)=some b->b < wr.heap.size:=λb e=>(hO.lt b e).2;obtain⟨V,Zx⟩:∃V,V=w1.alloc (cO #[nm,false,sV a2 m2 c2,sV a3x m3 c3,sV a4 m4 c4,sV a5 m5 c5,sV a6 m6 c6] 83):=⟨_,rfl⟩
    have kV:Kept aK w1 V:=by rw[Zx];exact(Kept.refl aK w1).alloc _
    have Ah:=U8.kept kV (λ_ _ _ e=>e) (λ_ _ e=>e);have hRV:aP (λb=>w.heap.size<=b/\Value.ownBlock (sV a3 acc.length alv)≠some b) V x [nm,false,sV a2 m2 c2,sV a3x m3 c3,sV a4 m4 c4,sV a5 m5 c5,sV a6 m6 c6]:=(hR.kept kV (λ_ _ _ e=>e)).mono λb hb _=>⟨by simp only[eB] at hb;omega,λe=>by have:=ep b e;simp only[eB] at hb;omega⟩
    have eG:∀(j:Nat) (u:YE),([nm,false,sV a2 m2 c2,sV a3x m3 c3,sV a4 m4 c4,sV a5 m5 c5,sV a6 m6 c6]:YT)[j]?=some u->V.cell? ((⟨w1,0,none⟩:Addr).add j)=some u:=pG;have PV:=P1.kept kV (λ_ e=>e.elim);have alw:an (λb=>(b < Bd'/\b≠C.p)/\Value.ownBlock (sV a3 acc.length alv)≠some b) V (.sl (strs fs')) fv':=(hfl.kept kV (λ_ _ _ e=>e)).mono λb hb _=>⟨⟨hb.2,by have:=eo.out;have h1:=hb.1;simp only[eB] at h1;omega⟩,λe=>by have:=ep b e;have h1:=hb.1;simp only[eB] at h1;omega⟩
    have lD:w.heap.size<=V.heap.size:=cn (cn xD KD.size) kV.size;have KV:=KA.trans' (aK.to kV);revert Ah hRV eG PV alw KV;refine LX ?_;intro Ah hRV eG PV alw KV;subst Zx;clear PD KD KA U8 ep kV hR hO hfl;go_wp2_with (at_builtin;refine bu (P:=prog) underlying32 hi A6 cL dY rfl ab ab rfl (.tmp 27) (.tmp 30) rfl rfl ⟨w1,0,none⟩ 1 rfl _ _ Ah lD ab rfl eG hRV ?_);intro v' W' iH lE aL;have PW:=PV.aeJ lE (λe=>by have h1:=(Ah.lt _ e).1;have:=eo.out;change _<=C.p at h1;omega) (λe=>by have h1:=(Ah.lt _ e).1;have:=hgw.out;change _<=C.g at h1;omega) ((alw.kept lE (λb hb hl e=>hb.2 e)).mono λb hb _=>hb.1);have oV:Hid (X7 C w F f rows n v' W'):=ah ⟨_,ys,n,r1,_,_,_,PW,iH,KV.out.trans lE (λb hb e=>by have h1:=(Ah.lt _ e).1;omega),hy,by rw[aN.out];simp,aM _⟩;clear iH lE aL;go_wp2;go_roundg n
    case measure=>have:=Qa.out;omega
    case rel=>exact oV
   .rw[aE bL] at cg;cases cg
def BC(p:Addr)(w:YC):CallsD prog 166 #[.pointer (some p)] .returning w λe u' w'=>e=.returned (.tuple #[])/\u'=.returning/\w'=w:=by
 refine callsD_of_wpS func166 rfl λc₀ cs hu=>?_;apply wpS_seq
 apply wpS_region
 simp[wpOpsS,go_sem,recoverD,hu,ntmps166,Exit.thenS];apply wpS_seq
 apply wpS_region
 simp[wpOpsS,go_sem,Exit.thenS];refine wpS_cond (t:=false) (by simp[Act.eval,Array.replicate]) ?_;simp only[rW,qE];refine wpS_of_wp (wp_skip ?_)
 cases c₀
 simp_all [bodyPostS,results,results166]
abbrev IT:Obj:=.cells #[oZ,oZ,oZ] 123
def abT{F:RB}{sz:Zt}{w:YC}{R:T2}(hdo:Calls prog F sz (w.alloc IT) λe w'=>e=.returned (.tuple #[])/\R w')(hR:∀w1,R w1->w1.heap[w.heap.size]?=some IT)(hcf:∀w,(callFunc F sz).run prog w=.ok (.enter F sz) w):Calls prog 91 #[.func (.func F) #[] sz] w λe w'=>e=.returned (.agg #[oZ,oZ,oZ])/\∃w1,R w1/\Kept (λb=>b=w.heap.size) w1 w':=by
 refine fg ?_;intro sE;go_enter_defers func91,ntmps91
 go_wp2_with fail;refine hdo.mono ?_;rintro e w1 ⟨rfl,h1⟩;have hz:=hR w1 h1;obtain⟨z0,z1,z2,-⟩:=cc (W:=w1) (b:=w) hz;have y0:∀j,w1.frozen? ⟨w,j,none⟩=false:=al hz;revert h1 hz;refine ct ?_;intro h1 hz;go_wp2_with fail;refine leaves_cons (f:=166) (args:=#[.pointer (some ⟨w,0,none⟩)]) ai GP ?_;refine(BC ⟨w,0,none⟩ _).mono ?_;rintro e u' w'' ⟨rfl,rfl,rfl⟩;simp[Leaves,settle,results,results91,go_sem,z0,z1,z2];exact⟨w1,h1,((au _ 0 _).trans' (au _ 1 _)).trans' (au _ 2 _)⟩
def Ir(L:Zi)(w:YC)(e:TP)(w':YC):Prop:=
 ∃(g:Nat) (ga:YS) (cap:Nat) (x y:Int),(L.length≠0->ga=some ⟨g,0,none⟩)/\e=.returned (.tuple #[sV ga L.length cap,.agg #[iV x,iV y],oZ])/\wK w' g 0 L/\w.heap.size<=g/\g < w'.heap.size/\Kept aK w w'
def Td(w:YC)(e:TP)(w':YC):Prop:=∃(x y:Int),e=.returned (.tuple #[.agg #[iV x,iV y],oZ])/\Kept aK w w'
abbrev zPl:Obj:=.cells #[oZ,oZ] 42
def abW{s:YR}{L:Zi}(hT:∀w,Env w->Calls prog 164 #[s] w (Ir L w))(hP:∀w,Calls prog 165 #[s,s.size] w (Td w))(hL:∀t∈L,bW t.t/\shape t.t=some t.k)(h6:L.length<=6000)(w:YC)(hE:Env w):Calls prog 90 #[s,nS] w λe w'=>∃C:Ctx,e=.returned (.tuple #[pP C,.agg #[oZ,oZ,oZ]])/\PS C w' L/\C.L=L/\w.heap.size<=C.p/\Kept aK w w':=by
 revert hT hP hL hE;refine jU ?_;intro hT hP hL hE;have Me:(w.alloc IT).heap[w.heap.size]?=some IT:=ao;have K0:=ah ((Kept.refl aK w).alloc IT);replace Me:=ah Me;go_enter func90,ntmps90;go_wp2_with fail;refine(hT _ (hE.no K0)).mono ?_;rintro e w1 ⟨g,ga,cap,x,y,Vg,rfl,ht,PE,Of,K1⟩;have ey:=aJ Me K1;revert Vg ht;refine ct ?_;intro Vg ht;replace K1:=ah (K0.trans' K1);replace ey:=ah ey;go_wp2_with fail;refine(hP _).mono ?_;rintro e w2 ⟨x2,y2,rfl,K2⟩;have oY:=aJ (aD (x:=cO #[x,y] 42) ey) K2;have AR:=aD (x:=cO #[sV ga L.length cap,oZ,x2,y2,nS] 168) (aD (x:=cO #[x2,y2] 42) oY);obtain⟨z0,z1,z2,-⟩:=cc (W:=(w2.alloc (cO #[x2,y2] 42)).alloc (cO #[sV ga L.length cap,oZ,x2,y2,nS] 168)) (b:=w) AR;have zy0:∀j,((w2.alloc (cO #[x2,y2] 42)).alloc (cO #[sV ga L.length cap,oZ,x2,y2,nS] 168)).frozen? ⟨w,j,none⟩=false:=al AR;have pD:=K2.size;have aqf:=ah K2;replace K2:=ah ((K1.alloc (cO #[x,y] 42)).trans' K2);revert oY AR;refine ct ?_;intro oY AR;have Ax:((w2.alloc (cO #[x2,y2] 42)).alloc (cO #[sV ga L.length cap,oZ,x2,y2,nS] 168)).heap[w2.heap.size+1]?=some (.cells #[sV ga L.length cap,oZ,x2,y2,nS] 168 (0,0)):=by rw[heap_alloc,aI ai]
 have KW:Kept aK w2 ((w2.alloc (cO #[x2,y2] 42)).alloc (cO #[sV ga L.length cap,oZ,x2,y2,nS] 168)):=((Kept.refl aK w2).alloc _).alloc _;have hgs:g < w2.heap.size:=by have:=pD;simp at this;omega
 revert Ax KW;refine ct ?_;intro Ax KW;go_wp2_with fail;refine bG (v:=.tuple #[.pointer (some ⟨w2.heap.size+1,0,none⟩),.agg #[iV 0,iV 0,iV 0]]) (by simp[results,results90,go_sem,z0,z1,z2]) rfl ?_;have kS:Kept (λb=>b=w.heap.size) _ _:=((au (W:=((w2.alloc (cO #[x2,y2] 42)).alloc (cO #[sV ga L.length cap,oZ,x2,y2,nS] 168))) w.heap.size 0 (iV 0)).trans' (au w.heap.size 1 (iV 0))).trans' (au w.heap.size 2 (iV 0));have TS:w.heap.size < w2.heap.size:=by have:=(aQ.1 oY).1;exact this
 have hA:((w2.alloc (cO #[x2,y2] 42)).alloc (cO #[sV ga L.length cap,oZ,x2,y2,nS] 168)).heap.size=w2.heap.size+1+1:=ai;obtain⟨A,hAe⟩:∃A,A=((w2.alloc (cO #[iV x2,iV y2] 42)).alloc (cO #[sV ga L.length cap,iV 0,iV x2,iV y2,sV none 0 0] 168)):=⟨_,rfl⟩
 have aoc:=Ax.out;have KW':=KW.out;rw[<-hAe] at kS hA aoc KW'|-;have lN:=(kS.block _ (by rw[hA];omega) (show ¬(w2.heap.size+1=w.heap.size) by omega)).trans aoc;have hg0:w.heap.size+1<=g:=by have h:=PE;simp at h;omega
 have hgc:∀j,(((A.setCell ⟨w,0,none⟩ (iV 0)).setCell ⟨w,1,none⟩ (iV 0)).setCell ⟨w,2,none⟩ (iV 0)).cell? ⟨g,j,none⟩=w1.cell? ⟨g,j,none⟩:=λj=>(kS.cell (p:=⟨g,j,none⟩) (by show g < A.heap.size;omega) (show ¬(g=w.heap.size) by omega)).trans ((KW'.cell (p:=⟨g,j,none⟩) (by show g < w2.heap.size;omega) (λe=>e)).trans ((aqf.cell (p:=⟨g,j,none⟩) (by show g < (w1.alloc _).heap.size;simp;omega) (λe=>e)).trans (A2 _ _ _ Of)));refine⟨⟨w2.heap.size+1,g,L,[],sV none 0 0,w2.heap.size+1+1,none,ga⟩,rfl,?_,rfl,by show w.heap.size<=w2.heap.size+1;omega,(K2.trans' KW').trans kS bH⟩;refine⟨hL,h6,⟨cap,aC lN 0,Vg⟩,⟨0,by simp,rfl,aC lN 1⟩,⟨x2,y2,aC lN 2,aC lN 3⟩,aC lN 4,(λv e=>by cases e),al lN,by show g≠w2.heap.size+1;omega,by show w2.heap.size+1 < w2.heap.size+1+1;omega,by show g < w2.heap.size+1+1;omega,?_,?_,.nil⟩
 .have:=kS.size;show w2.heap.size+1+1<=_;omega
 .intro k t hk;have:=ht k t hk;simp only[hgc];exact this
def Ye(s:YR)(hs:s.size<=1000000)(w:YC):Calls prog 165 #[s,s.size] w (Td w):=by have hb:=ah (show(w.alloc (.cells #[oZ,oZ] 42)).heap[w.heap.size]?=some (.cells #[oZ,oZ] 42) by rw[heap_alloc,aI rfl]);have h1:¬(s.size:Int) < 0:=ab;have h2:¬(s.size:Int) < (s.size:Int):=ab;go_enter func165,ntmps165;go_wp2_with (first|(go_at_call 224;refine(Tryz.strings_Count_one _ _ _).mono ?_;rintro e w1 ⟨rfl,rfl⟩)|(go_at_call 225;refine(Tryz.strings_LastIndexByte _ _ ab _).mono ?_;rintro e w1 ⟨rfl,rfl⟩));refine bG (v:=.tuple #[.agg #[iV (wrap64 (1+Lib.countByte s.data.toList 10)),iV (wrap64 (s.size - Lib.lastIndexByte s 10))],oZ]) (by simp[results,results165,go_sem]) rfl ?_;refine⟨_,_,rfl,(Kept.refl aK w).alloc _⟩
abbrev aiV:Value:=.func (.func 64) #[] #[]
def acm(hV:dT){F f N:Nat}(dx:F<=6000)(I9:f<=6000){C:Ctx}{W:YC}{l:Zi}{rows:Zg}(h:PS C W l)(hx:Aa F f N l=some rows)(OC:rows.length<=24){bf bp bo:Nat}(hf:W.heap[bf]?=some (.cells #[aiV] 126 (0,0)))(hp:W.heap[bp]?=some (.cells #[pP C] 128 (0,0)))(ho:W.heap[bo]?=some (.cells #[nS] 32 (0,0)))(n1:bp≠C.p)(n2:bo≠C.p)(n3:bo≠bp):Calls prog 92 #[.pointer bf,.pointer bp,.pointer bo] W λe w'=>e=.returned (.tuple #[])/\∃a c,w'.heap[bo]?=some (.cells #[sV a rows.length c] 32 (0,0))/\asL W w' (sV a rows.length c) rows/\(∀row∈rows,row.length=7)/\Kept (λb=>b=C.p∨b=bo) W w':=by
 have aqP:=ah (abS hV dx I9 h hx OC);have b0:=bc (W:=W) (bx:=bf) hf 0;have b1:=bc (W:=W) (bx:=bp) hp 0;have hlp:=(aQ.1 hp).1;have gD:=(aQ.1 ho).1;revert hp ho;refine ct ?_;intro hp ho;go_enter func92,ntmps92;go_wp2_with fail;refine aqP.mono ?_;rintro e w1 ⟨⟨a,c,rfl,hv,hlen⟩,⟨fs,fv,Bd,P⟩,K⟩;have Uy:=(K.block _ hlp (λe=>n1 e)).trans hp;have qI:=(K.block _ gD (λe=>n2 e)).trans ho;have c0:=bc (W:=w1) (bx:=bo) qI 0;have f0:w1.frozen? ⟨bo,0,none⟩=false:=al qI 0;have ho2:=heap_setCell_same w1 bo 0 (sV a rows.length c) qI;have IP:(w1.setCell ⟨bo,0,none⟩ (sV a rows.length c)).heap[bp]?=some (.cells #[pP C] 128 (0,0)):=((au (W:=w1) bo 0 (sV a rows.length c)).block _ (aQ.1 Uy).1 (λe=>n3 e.symm)).trans Uy;have WS:∀j,(w1.setCell ⟨bo,0,none⟩ (sV a rows.length c)).cell? ⟨C.p,j,none⟩=w1.cell? ⟨C.p,j,none⟩:=λj=>Bm.cS _ _ _ _ _ _ n2;obtain⟨cap,pc0,-⟩:=P.c0;obtain⟨m,hm1,-,pc1⟩:=P.c1;have hmL:m=C.L.length:=by simpa using hm1
 subst hmL;have al0:=(WS 0).trans pc0;have al1:=(WS 1).trans pc1;have jo:=hv.kept (au (W:=w1) bo 0 (sV a rows.length c)) dH;have K2:Kept (λb=>b=C.p∨b=bo) W (w1.setCell ⟨bo,0,none⟩ (sV a rows.length c)):=(K.mono (λb e=>Or.inl e)).trans' ((au (W:=w1) bo 0 (sV a rows.length c)).mono (λb e=>Or.inr e));revert hlen ho2 IP al0 al1 jo K2;refine Wy ?_;intro hlen ho2 IP al0 al1 jo K2;go_wp2_with fail;refine wpLive 9 (λV=>V.heap[bp]?=some (.cells #[pP C] 128 (0,0))/\V.cell? ⟨C.p,0,none⟩=some (sV C.ga C.L.length cap)/\V.cell? ⟨C.p,1,none⟩=some (iV C.L.length)) (λV s=>bc s.1 0) ?_ λFF ak=>?_
 .exact⟨IP,al0,al1⟩
 refine KQ ?_;intro K hK;have bQ:¬((C.L.length:Int) < (C.L.length:Int)):=ab;go_wp2_with fail
 first|go_end0|(refine bG (results_none rfl _ _ _) rfl ?_)
 exact⟨rfl,a,c,ho2,jo.kept (F:=aK) (Kept.refl _ _).drew (λ_ _ _ e=>e),hlen,K2.drew⟩
def afU(hV:dT){F f N:Nat}(dx:F<=6000)(I9:f<=6000){s:YR}{L:Zi}{rows:Zg}(hT:∀w,Env w->Calls prog 164 #[s] w (Ir L w))(hP:∀w,Calls prog 165 #[s,s.size] w (Td w))(hL:∀t∈L,bW t.t/\shape t.t=some t.k)(h6:L.length<=6000)(hx:Aa F f N L=some rows)(OC:rows.length<=24)(w:YC)(hE:Env w):Calls prog 63 #[s,nS,aiV] w λe w'=>∃a c,e=.returned (.tuple #[sV a rows.length c,.agg #[iV 0,iV 0,iV 0]])/\asL w w' (sV a rows.length c) rows/\(∀row∈rows,row.length=7)/\Kept aK w w':=by
 have o7:=ah (λw hE=>abW hT hP hL h6 w hE);refine fg ?_;intro sE;obtain⟨W0,OI⟩:∃W,W=(((w.alloc (cO #[aiV] 126)).alloc IT).alloc (cO #[nS] 32)):=⟨_,rfl⟩
 have K0:Kept aK w W0:=by rw[OI];exact(((Kept.refl aK w).alloc _).alloc _).alloc _
 have Pj:W0.heap[w.heap.size]?=some (.cells #[aiV] 126 (0,0)):=by rw[OI];exact aD (aD ao)
 have A6:W0.heap[w.heap.size+1]?=some IT:=by rw[OI];exact aD mT
 have ho0:W0.heap[w.heap.size+1+1]?=some (.cells #[nS] 32 (0,0)):=by rw[OI,heap_alloc,aI ai]
 have hs0:W0.heap.size=w.heap.size+3:=by rw[OI];simp
 revert hx OC OI K0 Pj A6 ho0 hs0;refine TR ?_;intro hx OC OI K0 Pj A6 ho0 hs0;replace hE:=ah hE;go_enter func63,ntmps63;go_wp2_with fail;rw[<-OI.out];refine(o7 _ (hE.no K0)).mono ?_;rintro e w4 ⟨C,rfl,P4,hCL,hCp,K4⟩;have hf4:=aJ Pj K4;have hz4:=aJ A6 K4;have ho4:=aJ ho0 K4;have Zo:w.heap.size+3<=w4.heap.size:=by have:=K4.size;have:=hs0.out;omega
 have K5:=K0.trans' K4;obtain⟨W5,hW5⟩:∃W,W=((w4.alloc (cO #[pP C] 128)).alloc IT):=⟨_,rfl⟩
 have K45:Kept aK w4 W5:=by rw[hW5];exact((Kept.refl aK w4).alloc _).alloc _
 have hp5:W5.heap[w4.heap.size]?=some (.cells #[pP C] 128 (0,0)):=by rw[hW5];exact aD ao
 have ht5:W5.heap[w4.heap.size+1]?=some IT:=by rw[hW5,heap_alloc,aI ai]
 have P5:=P4.kept K45 (λ_ e=>e.elim);have hC3:w.heap.size+3<=C.p:=by have:=hs0.out;omega
 have hCw:C.p < w4.heap.size:=by have:=P4.pb;have:=P4.bd;omega
 revert P4 K4 hf4 hz4 ho4 Zo K5 hW5 K45 hp5 ht5 P5 hC3 hCw;refine amO ?_;intro P4 K4 hf4 hz4 ho4 Zo K5 hW5 K45 hp5 ht5 P5 hC3 hCw;go_wp2_with fail;rw[<-hW5.out];have K55:=(Kept.refl aK W5).alloc IT;have hs5:w4.heap.size+2=W5.heap.size:=by rw[hW5.out];simp
 have aqQ:(W5.alloc IT).heap[W5.heap.size]?=some IT:=ao;refine(abT (F:=92) (R:=λw'=>∃a c,w'.heap[w.heap.size+1+1]?=some (.cells #[sV a rows.length c] 32 (0,0))/\asL (W5.alloc IT) w' (sV a rows.length c) rows/\(∀row∈rows,row.length=7)/\Kept (λb=>b=C.p∨b=w.heap.size+1+1) (W5.alloc IT) w')
  (acm hV dx I9 (P5.alloc IT) hx OC (aD (aJ hf4 K45)) (aD hp5) (aD (aJ ho4 K45)) (by have:=hCw.out;omega) (by have:=hC3.out;omega) kP) ?_ bP).mono ?_
 .rintro w1 ⟨a,c,-,-,-,K⟩;exact(K.block _ ai (λe=>by have:=hC3.out;have:=hCw.out;have:=Zo.out;rcases e with e|e<;>omega)).trans aqQ
 rintro e w7 ⟨rfl,w6,⟨a,c,ho6,hv6,hlen,K6⟩,K7⟩;have M6:∀b o,(W5.alloc IT).heap[b]?=some o->b≠C.p->b≠w.heap.size+1+1->b≠W5.heap.size->w7.heap[b]?=some o:=λb o h h1 h2 h3=>(K7.block _ (qD (aQ.1 h).1 K6.size) h3).trans ((K6.block _ (aQ.1 h).1 (λe=>e.elim h1 h2)).trans h);have ht7:=M6 _ _ (aD ht5) (by have:=hCw.out;omega) kP ab;have hz7:=M6 _ _ (aD (aJ hz4 K45)) (by have:=hC3.out;omega) ab kP;have ho7:w7.heap[w.heap.size+1+1]?=some (.cells #[sV a rows.length c] 32 (0,0)):=(K7.block _ (aQ.1 ho6).1 kP).trans ho6;obtain⟨t0,t1,t2,-⟩:=cc (W:=w7) (b:=w4.heap.size+1) ht7;have ty0:∀j,w7.frozen? ⟨w4.heap.size+1,j,none⟩=false:=al ht7;have hv7:=hv6.kept K7 (λb hb _ e=>by simp at hb;omega);have K9:Kept aK w w7:=((K5.trans' K45).trans' K55).trans ((K6.mono (G:=λb=>b=C.p∨b=w.heap.size+1+1∨b=W5.heap.size) (λb e=>e.elim Or.inl (λe=>Or.inr (Or.inl e)))).trans' (K7.mono (λb e=>Or.inr (Or.inr e)))) (λb hb e=>by have:=hC3.out;have:=Zo.out;rcases e with e|e|e<;>omega);revert hlen ht7 hz7 ho7 hv7 K9;refine LX ?_;intro hlen ht7 hz7 ho7 hv7 K9;have kS:Kept (λb=>b=w4.heap.size+1) w7 (((w7.setCell ⟨w4.heap.size+1,0,none⟩ (iV 0)).setCell ⟨w4.heap.size+1,1,none⟩ (iV 0)).setCell ⟨w4.heap.size+1,2,none⟩ (iV 0)):=((au (w4.heap.size+1) 0 (iV 0)).trans' (au (w4.heap.size+1) 1 (iV 0))).trans' (au (w4.heap.size+1) 2 (iV 0));have ho8:=(kS.block _ (aQ.1 ho7).1 kP).trans ho7;have hz8:=(kS.block _ (aQ.1 hz7).1 kP).trans hz7;have o8:=bc (W:=((w7.setCell ⟨w4.heap.size+1,0,none⟩ (iV 0)).setCell ⟨w4.heap.size+1,1,none⟩ (iV 0)).setCell ⟨w4.heap.size+1,2,none⟩ (iV 0)) (bx:=w.heap.size+1+1) ho8 0;obtain⟨z0,z1,z2,-⟩:=cc (W:=((w7.setCell ⟨w4.heap.size+1,0,none⟩ (iV 0)).setCell ⟨w4.heap.size+1,1,none⟩ (iV 0)).setCell ⟨w4.heap.size+1,2,none⟩ (iV 0)) (b:=w.heap.size+1) hz8;have zy0:∀j,(((w7.setCell ⟨w4.heap.size+1,0,none⟩ (iV 0)).setCell ⟨w4.heap.size+1,1,none⟩ (iV 0)).setCell ⟨w4.heap.size+1,2,none⟩ (iV 0)).frozen? ⟨w.heap.size+1,j,none⟩=false:=al hz8;revert kS ho8 hz8;refine jk ?_;intro kS ho8 hz8;go_wp2_with fail;refine bG (v:=.tuple #[sV a rows.length c,.agg #[iV 0,iV 0,iV 0]]) (by simp[results,results63,go_sem,z0,z1,z2]) rfl ?_;have kT:Kept (λb=>b=w4.heap.size+1∨b=w.heap.size+1) w7 _:=(kS.mono (λb e=>Or.inl e)).trans' ((((au (w.heap.size+1) 0 (iV 0)).trans' (au (w.heap.size+1) 1 (iV 0))).trans' (au (w.heap.size+1) 2 (iV 0))).mono (λb e=>Or.inr e));exact⟨a,c,rfl,(hv7.kept kT (λb hb _ e=>by simp at hb;have:=Zo.out;rcases e with e|e<;>omega)).mono (λb hb _=>by simp at hb;have:=Zo.out;omega),hlen,K9.trans kT (λb hb e=>by have:=Zo.out;rcases e with e|e<;>omega)⟩
def afV(hV:dT){F f N:Nat}(dx:F<=6000)(I9:f<=6000){s:YR}{L:Zi}{rows:Zg}(hT:∀w,Env w->Calls prog 164 #[.string s] w (Ir L w))(hP:∀w,Calls prog 165 #[.string s,iV s.size] w (Td w))(hL:∀t∈L,bW t.t/\shape t.t=some t.k)(h6:L.length<=6000)(hx:Aa F f N L=some rows)(OC:rows.length<=24)(w:YC)(hE:Env w):Calls prog 34 #[.string s] w λe w'=>∃a c,e=.returned (.tuple #[sV a rows.length c,.agg #[iV 0,iV 0],oZ])/\asL w w' (sV a rows.length c) rows/\(∀row∈rows,row.length=7)/\Kept aK w w':=by
 have hw:=ah (λw hE=>afU hV dx I9 hT hP hL h6 hx OC w hE);have K0:Hid (Kept aK w (w.alloc zPl)):=ah ((Kept.refl aK w).alloc zPl);have A6:(w.alloc zPl).heap[w.heap.size]?=some zPl:=ao;replace A6:=ah A6;replace hE:=ah hE;go_enter func34,ntmps34;go_wp2_with fail;refine(hw _ (hE.no K0)).mono ?_;rintro e w1 ⟨a,c,rfl,hv,hlen,K1⟩;have ey:=aJ A6 K1;have dM:=K1.size;have oY:=aD (x:=IT) ey;have ht2:(w1.alloc IT).heap[w1.heap.size]?=some IT:=ao;have jo:=hv.kept (F:=aK) ((Kept.refl _ w1).alloc IT) (λ_ _ _ e=>e);have K2:=(K0.trans' K1).alloc IT;revert hv hlen K1 ey oY ht2 jo K2;refine TR ?_;intro hv hlen K1 ey oY ht2 jo K2;go_wp2_with fail;obtain⟨v0,v1,-⟩:=cc (W:=w1.alloc (cO #[oZ,oZ,oZ] 123)) (b:=w) oY.out;have v2:∀j,(w1.alloc (cO #[oZ,oZ,oZ] 123)).frozen? ⟨w,j,none⟩=false:=al oY;obtain⟨z0,z1,-⟩:=cc (W:=(w1.alloc IT).drew) (b:=w) oY.out;have y0:∀j,((w1.alloc IT).drew).frozen? ⟨w,j,none⟩=false:=al oY;have kS:Kept (λb=>b=w.heap.size) (w1.alloc IT).drew (((w1.alloc IT).drew.setCell ⟨w,0,none⟩ (iV 0)).setCell ⟨w,1,none⟩ (iV 0)):=(au w.heap.size 0 (iV 0)).trans' (au w.heap.size 1 (iV 0));have hS6:=ah ((kS.block w1.heap.size (aQ.1 ht2).1 (by simp at dM;omega)).trans ht2);replace kS:=ah kS;obtain⟨bt,hbt⟩:∃b,b=w1.heap.size:=⟨_,rfl⟩
 rw[<-hbt] at hS6 ht2|-;replace hbt:=ah hbt;refine wpLive 7 (λV=>V.heap[bt]?=some IT) (λV s=>And.intro (bc s 0) (And.intro (bc s 1) (bc s 2))) ?_ λFF ak=>?_
 .exact ht2
 refine tkT 0 ?_;refine tkT 1 ?_;refine tkT 2 ?_;refine tkT 3 ?_;refine tkT 4 ?_;refine tkT 5 ?_;refine rdT 6 λK hK=>?_;go_simp;refine hK _ _ (hS6) (λak=>?_);refine sp ?_;refine ddT 7 λK hK=>?_;go_simp;refine hK _ _ ?_;refine sp ?_;refine dnT ?_;go_wp2_with fail;refine bG (v:=.tuple #[sV a rows.length c,.agg #[iV 0,iV 0],oZ]) (by simp[results,results34,go_sem,v0,v1]) rfl ?_;have kX:Kept (λb=>b=w.heap.size) (w1.alloc IT) (((w1.alloc IT).setCell ⟨w,0,none⟩ (iV 0)).setCell ⟨w,1,none⟩ (iV 0)).drew:=((au w.heap.size 0 (iV 0)).trans' (au w.heap.size 1 (iV 0))).drew;exact⟨a,c,rfl,(jo.kept kX (λb hb _ e=>by simp at hb;omega)).mono (λb hb _=>by simp at hb;omega),hlen,K2.trans kX bH⟩
def SmL(fn:RB)(sh:Row->Bool):Prop:=∀(S S':Wq) (w:YC) (rows:Zg) (va vb:YE),(∀r∈rows,sh r=true)->an S w (.sl rows) va->an S' w (.sl rows) vb->Calls prog fn #[va,vb] w λe w'=>e=.returned (.bool true)/\Kept aK w w'
def SmR(fn:RB)(sh:Row->Bool):Prop:=∀(S S':Wq) (w:YC) (row:Row) (ca cb:YT),sh row=true->aP S w row ca->aP S' w row cb->Calls prog fn #[.agg ca.toArray,.agg cb.toArray] w λe w'=>e=.returned (.bool true)/\Kept aK w w'
def shN:Row->Bool
 |[.str _]=>true
 |_=>false
def agf{r:Row}(h:shN r=true):∃s,r=[.str s]:=by
 unfold shN at h;split at h
 .exact⟨_,rfl⟩
 .cases h
def Qh(f:Nat)(r:Row):Bool:=(By f r).isSome
def V9(f:Nat)(r:Row):Bool:=(Bz f r).isSome
def YM(f:Nat)(r:Row):Bool:=(Pq f r).isSome
def agh(f:Nat)(r:Row):Bool:=(avf f r).isSome
def nY{g:Row->Option Nat}{r:Row}(h:(g r).isSome=true):∃d,g r=some d:=Rr.1 h
def zu{g:Row->Option Nat}(h:fG g n l=some N):∀r∈l,(g r).isSome=true:=λr hr=>by
 obtain⟨d,hd⟩:=zI h r hr;rw[hd];rfl
def acv{f:Nat}{args:Zg}{v s:TG}(h:Qh (f+1) [.int k,.str nm,.sl args,.bool v,.bool s]=true):∀r∈args,Qh f r=true:=by obtain⟨d,hd⟩:=nY h;unfold By at hd;exact Eo
def acw{f:Nat}{m:Int}{kids:Zg}(h:V9 (f+1) [.int k,.str nm,.int m,.sl kids]=true):∀r∈kids,V9 f r=true:=by obtain⟨d,hd⟩:=nY h;unfold Bz at hd;exact Eo
def aj5{f:Nat}(ih:SmR 98 (Qh f)):SmL 96 (Qh f):=by
 refine fN ?_;intro S S' w rows a cap gF b vE lC eF v3 u3;go_enter func96,ntmps96;go_wp2_with fail;go_loopg [5] rows.length (λgg s5 wr=>∃k:Nat,s5=iV k/\k+gg=rows.length/\Kept aK w wr)
 case atStart=>exact⟨0,rfl,by omega,Kept.refl _ _⟩
 case round=>
  obtain⟨j,rfl,zC,hK⟩:=hrel;by_cases hj:j < rows.length
  .refine fP ?_;intro row aL nw;obtain⟨k,nm,args,v,s,rfl⟩:=lf (nY nw).choose_spec;obtain⟨ga,oa,rfl,-,ca,ri,Mc⟩:=v3.out.elem aL;obtain⟨gb,ob,rfl,-,cb,nF,xE⟩:=u3.out.elem aL;obtain⟨x1,n1,c1,rfl⟩:=ri.Ih;obtain⟨x2,n2,c2,rfl⟩:=nF.Ih;revert hK aL nw ri nF;refine Gc ?_;intro de p0 p1 p2 p3 p4 q0 q1 q2 q3 q4 jS sQ hK aL nw ri nF;go_wp2_with fail;refine aY [some 18,some 19,some 20,some 21,some 22,some 23,some 24,some 25,some 26,some 6] [0,1,2,3,4,5,6,7,8,9] (A:=?_) (λlb u V=>(Kept aK wr V)/\VT [some (sV (some ⟨ga,oa,none⟩) rows.length cap),some (iV j),some (.pointer (some ⟨ga,oa+j*5,none⟩)),some (.agg #[iV k,.string (bs nm),sV x1 n1 c1,.bool v,.bool s]),some (sV (some ⟨gb,ob,none⟩) rows.length vE),some (iV j),some (.pointer (some ⟨gb,ob+j*5,none⟩)),some (.agg #[iV k,.string (bs nm),sV x2 n2 c2,.bool v,.bool s]),some (.bool true),some (.bool true)] lb u) af af (λu=>?_) (λlb u h0=>⟨(Kept.refl aK wr).drew,VT.none rfl h0⟩) ?_ (λlb u V hl hI=>?_);rotate_left
   .exact bK
   .repeat' first|apply Bm.be.cons|exact Bm.be.nil
    all_goals intro lb u V K hl hn Pj hI j8
    .exact eV
    .exact fJ
    .exact iL
    .refine Gk ?_;intro e2 d0 d1 d2 d3 d4;exact kj
    .exact iP
    .exact gK
    .exact pk
    .refine Gj ?_;intro e6 d0 d1 d2 d3 d4;exact mK
    .exact xX
    .exact uH
   exact uF
  exact fL
def aj6{f:Nat}(ih:SmR 100 (V9 f)):SmL 186 (V9 f):=by
 refine fN ?_;intro S S' w rows a cap gF b vE lC eF v3 u3;go_enter func186,ntmps186;go_wp2_with fail;go_loopg [5] rows.length (λgg s5 wr=>∃k:Nat,s5=iV k/\k+gg=rows.length/\Kept aK w wr)
 case atStart=>exact⟨0,rfl,by omega,Kept.refl _ _⟩
 case round=>
  obtain⟨j,rfl,zC,hK⟩:=hrel;by_cases hj:j < rows.length
  .refine fP ?_;intro row aL nw;obtain⟨k,nm,m,kids,rfl⟩:=mo (nY nw).choose_spec;obtain⟨ga,oa,rfl,-,ca,ri,Mc⟩:=v3.out.elem aL;obtain⟨gb,ob,rfl,-,cb,nF,xE⟩:=u3.out.elem aL;obtain⟨x1,n1,c1,rfl⟩:=ri.zB;obtain⟨x2,n2,c2,rfl⟩:=nF.zB;refine oC ?_;intro de;obtain⟨p0,p1,p2,p3,-⟩:=hc (o:=oa+j*4) λk _ e=>de (Mc k _ e);obtain⟨q0,q1,q2,q3,-⟩:=hc (o:=ob+j*4) λk _ e=>de (xE k _ e);have jS:(j:Int) < (rows.length:Int):=ab;have sQ:(0:Int)<=(j:Int):=ab;revert hK aL nw ri nF;refine nx ?_;intro hK aL nw ri nF;go_wp2_with fail;refine aY [some 18,some 19,some 20,some 21,some 22,some 23,some 24,some 25,some 26,some 6] [0,1,2,3,4,5,6,7,8,9] (A:=?_) (λlb u V=>(Kept aK wr V)/\VT [some (sV (some ⟨ga,oa,none⟩) rows.length cap),some (iV j),some (.pointer (some ⟨ga,oa+j*4,none⟩)),some (.agg #[iV k,.string (bs nm),iV m,sV x1 n1 c1]),some (sV (some ⟨gb,ob,none⟩) rows.length vE),some (iV j),some (.pointer (some ⟨gb,ob+j*4,none⟩)),some (.agg #[iV k,.string (bs nm),iV m,sV x2 n2 c2]),some (.bool true),some (.bool true)] lb u) af af (λu=>?_) (λlb u h0=>⟨(Kept.refl aK wr).drew,VT.none rfl h0⟩) ?_ (λlb u V hl hI=>?_);rotate_left
   .exact bK
   .repeat' first|apply Bm.be.cons|exact Bm.be.nil
    all_goals intro lb u V K hl hn Pj hI j8
    .exact eV
    .exact fJ
    .exact iL
    .have e2:=hI.2 2 _ rfl (hn 2 af);have d0:=hI.1.aq p0 (λe=>e);have d1:=hI.1.aq p1 (λe=>e);have d2:=hI.1.aq p2 (λe=>e);have d3:=hI.1.aq p3 (λe=>e);exact kj
    .exact iP
    .exact gK
    .exact pk
    .have e6:=hI.2 6 _ rfl (hn 6 af);have d0:=hI.1.aq q0 (λe=>e);have d1:=hI.1.aq q1 (λe=>e);have d2:=hI.1.aq q2 (λe=>e);have d3:=hI.1.aq q3 (λe=>e);exact mK
    .exact xX
    .exact uH
   exact uF
  exact fL
def aqW{f:Nat}(ih:SmL 96 (Qh f)):SmR 98 (Qh (f+1)):=by intro S S' w row ca cb nw ri nF;obtain⟨k,nm,args,v,s,rfl⟩:=lf (nY nw).choose_spec;have agi:=acv nw;obtain⟨x1,c1,rfl,va,-⟩:=ri.Ow;obtain⟨x2,c2,rfl,vb,-⟩:=nF.Ow;have K0:=((Kept.refl aK w).alloc (cO #[iV k,.string (bs nm),sV x1 args.length c1,.bool v,.bool s] 146)).alloc (cO #[iV k,.string (bs nm),sV x2 args.length c2,.bool v,.bool s] 146);have hc:=ah (ih _ _ _ _ _ _ agi (va.kept K0 λ_ _ _ e=>e) (vb.kept K0 λ_ _ _ e=>e));replace K0:=ah K0;go_enter func98,ntmps98;exact Ks
def aqX{f:Nat}(ih:SmL 186 (V9 f)):SmR 100 (V9 (f+1)):=by intro S S' w row ca cb nw ri nF;obtain⟨k,nm,m,kids,rfl⟩:=mo (nY nw).choose_spec;have agi:=acw nw;obtain⟨x1,c1,rfl,va,-⟩:=ri.Ov;obtain⟨x2,c2,rfl,vb,-⟩:=nF.Ov;have K0:=((Kept.refl aK w).alloc (cO #[iV k,.string (bs nm),iV m,sV x1 kids.length c1] 181)).alloc (cO #[iV k,.string (bs nm),iV m,sV x2 kids.length c2] 181);have hc:=ah (ih _ _ _ _ _ _ agi (va.kept K0 λ_ _ _ e=>e) (vb.kept K0 λ_ _ _ e=>e));replace K0:=ah K0;go_enter func100,ntmps100;exact Ks
def zh:∀f,SmR 98 (Qh f)
 |0=>λ_ _ _ _ _ _ h=>by cases h
 |f+1=>aqW (aj5 (zh f))
def th:∀f,SmR 100 (V9 f)
 |0=>λ_ _ _ _ _ _ h=>by cases h
 |f+1=>aqX (aj6 (th f))
def aaY{f:Nat}(ih:SmR 100 (V9 f)):SmL 67 (YM f):=by
 refine fN ?_;intro S S' w rows a cap gF b vE lC eF v3 u3;go_enter func67,ntmps67;go_wp2_with fail;go_loopg [5] rows.length (λgg s5 wr=>∃k:Nat,s5=iV k/\k+gg=rows.length/\Kept aK w wr)
 case atStart=>exact⟨0,rfl,by omega,Kept.refl _ _⟩
 case round=>
  obtain⟨j,rfl,zC,hK⟩:=hrel;by_cases hj:j < rows.length
  .refine fP ?_;intro row aL nw;obtain⟨t,k,nm,m,kids,rfl⟩:=Jq (nY nw).choose_spec;obtain⟨ga,oa,rfl,-,ca,ri,Mc⟩:=v3.out.elem aL;obtain⟨gb,ob,rfl,-,cb,nF,xE⟩:=u3.out.elem aL;obtain⟨x1,n1,c1,rfl⟩:=ri.Mx;obtain⟨x2,n2,c2,rfl⟩:=nF.Mx;revert hK aL nw ri nF;refine Gc ?_;intro de p0 p1 p2 p3 p4 q0 q1 q2 q3 q4 jS sQ hK aL nw ri nF;clear Mc xE de;go_wp2_with fail;refine aY [some 18,some 19,some 20,some 21,some 22,some 23,some 24,some 25,some 26,some 27,some 28,some 6] [0,1,2,3,4,5,6,7,8,9,10,11] (A:=?_) (λlb u V=>(Kept aK wr V)/\VT [some (sV (some ⟨ga,oa,none⟩) rows.length cap),some (iV j),some (.pointer (some ⟨ga,oa+j*5,none⟩)),some (.pointer (some ⟨ga,oa+j*5+1,none⟩)),some (.agg #[iV k,nm,m,sV x1 n1 c1]),some (sV (some ⟨gb,ob,none⟩) rows.length vE),some (iV j),some (.pointer (some ⟨gb,ob+j*5,none⟩)),some (.pointer (some ⟨gb,ob+j*5+1,none⟩)),some (.agg #[iV k,nm,m,sV x2 n2 c2]),some (.bool true),some (.bool true)] lb u) af af (λu=>?_) (λlb u h0=>⟨(Kept.refl aK wr).drew,VT.none rfl h0⟩) ?_ (λlb u V hl hI=>?_);rotate_left
   .exact bK
   .repeat' first|apply Bm.be.cons|exact Bm.be.nil
    all_goals intro lb u V K hl hn Pj hI j8
    .exact eV
    .exact fJ
    .exact iL
    .exact tJ
    .refine Gs ?_;intro e3 d0 d1 d2 d3;exact pd
    .exact gK
    .exact tK
    .exact tM
    .exact Dm
    .refine Gr ?_;intro e8 d0 d1 d2 d3;exact mB
    .exact Di
    .exact J0
   have xU:=hI.2 11 _ rfl (hl 11 aj);have hKX:=ah (hK.trans' hI.1);have jl:=hI.1;rw[xU];replace jl:=ah jl;clear hI hl xU;go_wp2_with fail;have p0':=jl.aq p0 (λe=>e);have q0':=jl.aq q0 (λe=>e);obtain⟨V1,hV1⟩:∃x,x=V:=⟨_,rfl⟩
   rw[<-hV1] at p0' q0' jl hKX|-;clear hV1;refine aY [some 29,some 30,some 31,some 32,some 33,some 34,some 35,some 36,some 37,some 38,some 39,some 40,some 41,some 42,some 43] [0,1,2,3,4,5,6,7,8,9,10,11,12,13,14] (A:=?_) (λlb u V=>(Kept aK V1 V)/\VT [some (sV (some ⟨ga,oa,none⟩) rows.length cap),some (iV j),some (.pointer (some ⟨ga,oa+j*5,none⟩)),some (.pointer (some ⟨ga,oa+j*5,none⟩)),some (.string (bs t)),some (sV (some ⟨gb,ob,none⟩) rows.length vE),some (iV j),some (.pointer (some ⟨gb,ob+j*5,none⟩)),some (.pointer (some ⟨gb,ob+j*5,none⟩)),some (.string (bs t)),some (.bool false),some (.bool false),some (.bool true),some (.bool false),some (.bool false)] lb u) af af (λu=>?_) (λlb u h0=>⟨(Kept.refl aK V1).drew,VT.none rfl h0⟩) ?_ (λlb u V hl hI=>?_);rotate_left
   .exact bK
   .exact asn
   exact aso
  exact fL
def aj7{f:Nat}(ih:SmR 98 (Qh f)):SmL 97 (agh f):=by
 refine fN ?_;intro S S' w rows a cap gF b vE lC eF v3 u3;go_enter func97,ntmps97;go_wp2_with fail;go_loopg [5] rows.length (λgg s5 wr=>∃k:Nat,s5=iV k/\k+gg=rows.length/\Kept aK w wr)
 case atStart=>exact⟨0,rfl,by omega,Kept.refl _ _⟩
 case round=>
  obtain⟨j,rfl,zC,hK⟩:=hrel;by_cases hj:j < rows.length
  .refine fP ?_;intro row aL nw;obtain⟨t,k,nm,args,v,s,rfl⟩:=zA (nY nw).choose_spec;obtain⟨ga,oa,rfl,-,ca,ri,Mc⟩:=v3.out.elem aL;obtain⟨gb,ob,rfl,-,cb,nF,xE⟩:=u3.out.elem aL;obtain⟨x1,n1,c1,rfl⟩:=ri.My;obtain⟨x2,n2,c2,rfl⟩:=nF.My;have de:∀{p:Addr} {u},w.cell? p=some u->wr.cell? p=some u:=λh=>hK.aq h (λe=>e);obtain⟨p0,p1,p2,p3,p4,p5,-⟩:=hc (o:=oa+j*6) λk _ e=>de (Mc k _ e);obtain⟨q0,q1,q2,q3,q4,q5,-⟩:=hc (o:=ob+j*6) λk _ e=>de (xE k _ e);refine pO ?_;intro jS sQ;revert hK aL nw ri nF;refine nx ?_;intro hK aL nw ri nF;clear Mc xE de;go_wp2_with fail;refine aY [some 18,some 19,some 20,some 21,some 22,some 23,some 24,some 25,some 26,some 27,some 28,some 6] [0,1,2,3,4,5,6,7,8,9,10,11] (A:=?_) (λlb u V=>(Kept aK wr V)/\VT [some (sV (some ⟨ga,oa,none⟩) rows.length cap),some (iV j),some (.pointer (some ⟨ga,oa+j*6,none⟩)),some (.pointer (some ⟨ga,oa+j*6+1,none⟩)),some (.agg #[iV k,nm,sV x1 n1 c1,v,s]),some (sV (some ⟨gb,ob,none⟩) rows.length vE),some (iV j),some (.pointer (some ⟨gb,ob+j*6,none⟩)),some (.pointer (some ⟨gb,ob+j*6+1,none⟩)),some (.agg #[iV k,nm,sV x2 n2 c2,v,s]),some (.bool true),some (.bool true)] lb u) af af (λu=>?_) (λlb u h0=>⟨(Kept.refl aK wr).drew,VT.none rfl h0⟩) ?_ (λlb u V hl hI=>?_);rotate_left
   .exact bK
   .repeat' first|apply Bm.be.cons|exact Bm.be.nil
    all_goals intro lb u V K hl hn Pj hI j8
    .exact eV
    .exact fJ
    .exact iL
    .exact tJ
    .refine Gs ?_;intro e3 d0 d1 d2 d3;have d4:=hI.1.aq p5 (λe=>e);exact pd
    .exact gK
    .exact tK
    .exact tM
    .exact Dm
    .refine Gr ?_;intro e8 d0 d1 d2 d3;have d4:=hI.1.aq q5 (λe=>e);exact mB
    .exact Di
    .exact J0
   have xU:=hI.2 11 _ rfl (hl 11 aj);have hKX:=ah (hK.trans' hI.1);have jl:=hI.1;rw[xU];replace jl:=ah jl;clear hI hl xU;go_wp2_with fail;have p0':=jl.aq p0 (λe=>e);have q0':=jl.aq q0 (λe=>e);obtain⟨V1,hV1⟩:∃x,x=V:=⟨_,rfl⟩
   rw[<-hV1] at p0' q0' jl hKX|-;clear hV1;refine aY [some 29,some 30,some 31,some 32,some 33,some 34,some 35,some 36,some 37,some 38,some 39,some 40,some 41,some 42,some 43] [0,1,2,3,4,5,6,7,8,9,10,11,12,13,14] (A:=?_) (λlb u V=>(Kept aK V1 V)/\VT [some (sV (some ⟨ga,oa,none⟩) rows.length cap),some (iV j),some (.pointer (some ⟨ga,oa+j*6,none⟩)),some (.pointer (some ⟨ga,oa+j*6,none⟩)),some (.string (bs t)),some (sV (some ⟨gb,ob,none⟩) rows.length vE),some (iV j),some (.pointer (some ⟨gb,ob+j*6,none⟩)),some (.pointer (some ⟨gb,ob+j*6,none⟩)),some (.string (bs t)),some (.bool false),some (.bool false),some (.bool true),some (.bool false),some (.bool false)] lb u) af af (λu=>?_) (λlb u h0=>⟨(Kept.refl aK V1).drew,VT.none rfl h0⟩) ?_ (λlb u V hl hI=>?_);rotate_left
   .exact bK
   .exact asn
   exact aso
  exact fL
def Wa:SmL 12 shN:=by
 refine fN ?_;intro S S' w rows a cap gF b vE lC eF v3 u3;go_enter func12,ntmps12;go_wp2_with fail;go_loopg [5] rows.length (λgg s5 wr=>∃k:Nat,s5=iV k/\k+gg=rows.length/\Kept aK w wr)
 case atStart=>exact⟨0,rfl,by omega,Kept.refl _ _⟩
 case round=>
  obtain⟨j,rfl,zC,hK⟩:=hrel;by_cases hj:j < rows.length
  .refine fP ?_;intro row aL nw;obtain⟨t,rfl⟩:=agf nw;obtain⟨ga,oa,rfl,-,ca,ri,Mc⟩:=v3.out.elem aL;obtain⟨gb,ob,rfl,-,cb,nF,xE⟩:=u3.out.elem aL;obtain⟨x1,y1,rfl,v1,h1⟩:=ri.aG;obtain⟨x2,y2,rfl,v2,h2⟩:=nF.aG
   cases v1.bq
   cases v2.bq;refine oC ?_;intro de;have p0:wr.cell? ⟨ga,oa+j,none⟩=(some (.string (bs t)):Option Value):=by have:=Mc 0 _ rfl;exact de (by simpa using this)
   have q0:wr.cell? ⟨gb,ob+j,none⟩=(some (.string (bs t)):Option Value):=by have:=xE 0 _ rfl;exact de (by simpa using this)
   have jS:(j:Int) < (rows.length:Int):=ab;have sQ:(0:Int)<=(j:Int):=ab;revert hK aL nw ri nF;refine nx ?_;intro hK aL nw ri nF;go_wp2_with fail;refine aY [some 17,some 18,some 19,some 20,some 21,some 22,some 23,some 24,some 25] [0,1,2,3,4,5,6,7,8] (A:=?_) (λlb u V=>(Kept aK wr V)/\VT [some (sV (some ⟨ga,oa,none⟩) rows.length cap),some (iV j),some (.pointer (some ⟨ga,oa+j,none⟩)),some (.string (bs t)),some (sV (some ⟨gb,ob,none⟩) rows.length vE),some (iV j),some (.pointer (some ⟨gb,ob+j,none⟩)),some (.string (bs t)),some (.bool false)] lb u) af af (λu=>?_) (λlb u h0=>⟨(Kept.refl aK wr).drew,VT.none rfl h0⟩) ?_ (λlb u V hl hI=>?_);rotate_left
   .exact bK
   .repeat' first|apply Bm.be.cons|exact Bm.be.nil
    all_goals intro lb u V K hl hn Pj hI j8
    .exact eV
    .exact fJ
    .exact iL
    .have e2:=hI.2 2 _ rfl (hn 2 af);have d0:=hI.1.aq p0 (λe=>e);exact kj
    .exact iP
    .exact gK
    .exact pk
    .have e6:=hI.2 6 _ rfl (hn 6 af);have d0:=hI.1.aq q0 (λe=>e);exact mK
    .exact J5
   have e8:=hI.2 8 _ rfl (hl 8 aj);have hKX:=ah (hK.trans' hI.1);have jl:=hI.1;rw[e8];replace jl:=ah jl;exact pe
  exact fL
def YN(f:Nat)(r:Row):Bool:=(BO f r).isSome
def aoT{f:Nat}(ih:∀f' < f,SmL 99 (YN f')):SmL 99 (YN f):=by
 refine fN ?_;intro S S' w rows a cap gF b vE lC eF v3 u3;go_enter func99,ntmps99;go_wp2_with fail;go_loopg [5] rows.length (λgg s5 wr=>∃k:Nat,s5=iV k/\k+gg=rows.length/\Kept aK w wr)
 case atStart=>exact⟨0,rfl,by omega,Kept.refl _ _⟩
 case round=>
  obtain⟨j,rfl,zC,hK⟩:=hrel;by_cases hj:j < rows.length
  .refine fP ?_;intro row aL nw;obtain⟨f',k,nm,m,es,tags,si,sb,se,rfl,rfl⟩:=zE (nY nw).choose_spec;obtain⟨d0,d1,d2,d3,d4,d5,h5,h1,h2,h3,h4,-,-⟩:=OA (nY nw).choose_spec;revert nw h5 h1 h2 h3 h4;refine LX ?_;intro nw h5 h1 h2 h3 h4;obtain⟨ga,oa,rfl,-,ca,ri,Mc⟩:=v3.out.elem aL;obtain⟨gb,ob,rfl,-,cb,nF,xE⟩:=u3.out.elem aL;obtain⟨j7,ft,ti,js,xz,Rd,zR,MF,Ui,c17,rfl,YO,va4,va5,va6,va7,-⟩:=ri.SO;obtain⟨a23,O4,a24,T8,a25,T9,a26,Ua,a27,c27,rfl,YP,vb4,vb5,vb6,vb7,-⟩:=nF.SO;revert YO va4 va5 va6 va7 YP vb4 vb5 vb6 vb7;refine zQ ?_;intro YO va4 va5 va6 va7 YP vb4 vb5 vb6 vb7;refine oC ?_;intro de;obtain⟨p0,p1,p2,p3,p4,p5,p6,p7,-⟩:=hc (o:=oa+j*8) λk _ e=>de (Mc k _ e);obtain⟨q0,q1,q2,q3,q4,q5,q6,q7,-⟩:=hc (W:=wr.alloc (cO #[k,nm,m,sV j7 es.length ft,sV ti tags.length js,sV xz si.length Rd,sV zR sb.length MF,sV Ui se.length c17] 239)) (o:=ob+j*8) λk _ e=>cD _ (de (xE k _ e));refine pO ?_;intro jS sQ;have N4:=ah (aD (x:=.cells #[k,nm,m,.slice a23 es.length O4,.slice a24 tags.length T8,.slice a25 si.length T9,.slice a26 sb.length Ua,.slice a27 se.length c27] 239) (show(wr.alloc (.cells #[k,nm,m,.slice j7 es.length ft,.slice ti tags.length js,.slice xz si.length Rd,.slice zR sb.length MF,.slice Ui se.length c17] 239)).heap[wr.heap.size]?=some (.cells #[k,nm,m,.slice j7 es.length ft,.slice ti tags.length js,.slice xz si.length Rd,.slice zR sb.length MF,.slice Ui se.length c17] 239) by rw[heap_alloc,aI rfl]));have nA:Hid (((wr.alloc (.cells #[k,nm,m,.slice j7 es.length ft,.slice ti tags.length js,.slice xz si.length Rd,.slice zR sb.length MF,.slice Ui se.length c17] 239)).alloc (.cells #[k,nm,m,.slice a23 es.length O4,.slice a24 tags.length T8,.slice a25 si.length T9,.slice a26 sb.length Ua,.slice a27 se.length c27] 239)).heap[wr.heap.size+1]?=some (.cells #[k,nm,m,.slice a23 es.length O4,.slice a24 tags.length T8,.slice a25 si.length T9,.slice a26 sb.length Ua,.slice a27 se.length c27] 239)):=ah mT;have fq:=ah ((hK.alloc (cO #[k,nm,m,sV j7 es.length ft,sV ti tags.length js,sV xz si.length Rd,sV zR sb.length MF,sV Ui se.length c17] 239)).alloc (cO #[k,nm,m,sV a23 es.length O4,sV a24 tags.length T8,sV a25 si.length T9,sV a26 sb.length Ua,sV a27 se.length c27] 239));revert hK aL;refine ct ?_;intro hK aL;obtain⟨a0,a1,a2,a3,-⟩:=cc N4.out;obtain⟨b0,b1,b2,b3,-⟩:=cc nA.out;go_wp2_with fail;refine bD ((aj6 (th f')) _ _ _ _ _ _ (zu h5) (YO.kept fq λ_ _ _ e=>e) (YP.kept fq λ_ _ _ e=>e)) λz1 KK=>?_;revert fq;refine pL ?_;intro hA1 PJ fq;have a4:=bc hA1 4;have b4:=bc PJ 4;go_wp2_with fail;refine bD ((aaY (th f')) _ _ _ _ _ _ (zu h1) (va4.kept fq λ_ _ _ e=>e) (vb4.kept fq λ_ _ _ e=>e)) λz2 KK=>?_;revert fq;refine pM ?_;intro RO Jd fq;have a5:=bc RO 5;have b5:=bc Jd 5;go_wp2_with fail;refine bD ((ih f' ab) _ _ _ _ _ _ (zu h2) (va5.kept fq λ_ _ _ e=>e) (vb5.kept fq λ_ _ _ e=>e)) λz3 KK=>?_;revert fq;refine rI ?_;intro hA3 Mp fq;have a6:=bc hA3 6;have b6:=bc Mp 6;go_wp2_with fail;refine bD ((ih f' ab) _ _ _ _ _ _ (zu h3) (va6.kept fq λ_ _ _ e=>e) (vb6.kept fq λ_ _ _ e=>e)) λz4 KK=>?_;revert fq;refine pN ?_;intro hA4 Xu fq;have a7:=bc hA4 7;have b7:=bc Xu 7;go_wp2_with fail;refine bD ((ih f' ab) _ _ _ _ _ _ (zu h4) (va7.kept fq λ_ _ _ e=>e) (vb7.kept fq λ_ _ _ e=>e)) λz5 KK=>?_;have hA5:=ah (aJ hA4.out KK);have hB5:=ah (aJ Xu.out KK);exact J6
  exact fL
def Wb(f:Nat):SmL 99 (YN f):=by
 induction f using Nat.strongRecOn with
 |ind f ih=>exact aoT λf' h=>ih f' h
def agj(f:Nat):Row->Bool
 |[.int _,.str _,.sl cl,.sl ags,.int tk,.str tn,.sl ta,.bool tv,.bool ts,.sl lo,.sl rq,.sl en,.sl bo,.sl rb,.bool _]=>cl.all shN&&ags.all (agh f)&&Qh f [.int tk,.str tn,.sl ta,.bool tv,.bool ts]&&lo.all (agh f)&&rq.all (YM f)&&en.all (YM f)&&bo.all (YN f)&&rb.all (YN f)
 |_=>false
def acx{f:Nat}{r:Row}(h:agj f r=true):∃fk fn cl ags tk tn ta tv ts lo rq en bo rb rs,r=[.int fk,.str fn,.sl cl,.sl ags,.int tk,.str tn,.sl ta,.bool tv,.bool ts,.sl lo,.sl rq,.sl en,.sl bo,.sl rb,.bool rs]/\(∀r∈cl,shN r=true)/\(∀r∈ags,agh f r=true)/\Qh f [.int tk,.str tn,.sl ta,.bool tv,.bool ts]=true/\(∀r∈lo,agh f r=true)/\(∀r∈rq,YM f r=true)/\(∀r∈en,YM f r=true)/\(∀r∈bo,YN f r=true)/\(∀r∈rb,YN f r=true):=by
 unfold agj at h;split at h
 .simp only[dD,dV] at h;exact⟨_,_,_,_,_,_,_,_,_,_,_,_,_,_,_,rfl,h.1.1.1.1.1.1.1,h.1.1.1.1.1.1.2,h.1.1.1.1.1.2,h.1.1.1.1.2,h.1.1.1.2,h.1.1.2,h.1.2,h.2⟩
 .cases h
def aoU{f:Nat}:SmL 66 (agj f):=by
 refine fN ?_;intro S S' w rows a cap gF b vE lC eF v3 u3;go_enter func66,ntmps66;go_wp2_with fail;go_loopg [5] rows.length (λgg s5 wr=>∃k:Nat,s5=iV k/\k+gg=rows.length/\Kept aK w wr)
 case atStart=>exact⟨0,rfl,by omega,Kept.refl _ _⟩
 case round=>
  obtain⟨j,rfl,zC,hK⟩:=hrel;by_cases hj:j < rows.length
  .refine fP ?_;intro row aL nw;obtain⟨fk,fn,cl,ags,tk,tn,ta,tv,ts,lo,rq,en,bo,rb,rs,rfl,h2,h3,h4,h9,sG,Oq,Pp,Ps⟩:=acx nw;revert nw h2 h3 h4 h9 sG Oq Pp Ps;refine hd9 ?_;intro nw h2 h3 h4 h9 sG Oq Pp Ps;obtain⟨ga,oa,rfl,-,ca,ri,Mc⟩:=v3.out.elem aL;obtain⟨gb,ob,rfl,-,cb,nF,xE⟩:=u3.out.elem aL;obtain⟨a12,gh,j7,ft,zR,MF,avj,c19,agk,agl,agm,agn,ago,agp,agq,agr,rfl,Wz,YO,va6,va9,amg,amh,ami,amj,-⟩:=ri.SW;obtain⟨a22,TB,a23,O4,a26,Ua,a29,c29,a210,ai1,ai2,ai3,a212,ai4,a213,ai5,rfl,vb2,YP,vb6,vb9,amk,aml,amm,amn,-⟩:=nF.SW;have vta:aP _ w [tk,tn,ta,tv,ts] [iV tk,.string (bs tn),sV zR ta.length MF,.bool tv,.bool ts]:=.cons (.int _) (.cons (.str _) (.cons va6 (.cons (.bool _) (.cons (.bool _) .nil))));have vtb:aP _ w [tk,tn,ta,tv,ts] [iV tk,.string (bs tn),sV a26 ta.length Ua,.bool tv,.bool ts]:=.cons (.int _) (.cons (.str _) (.cons vb6 (.cons (.bool _) (.cons (.bool _) .nil))));revert Wz YO va9 amg amh ami amj vb2 YP vb9 amk aml amm amn vta vtb;refine apm ?_;intro Wz YO va9 amg amh ami amj vb2 YP vb9 amk aml amm amn vta vtb;refine oC ?_;intro de;obtain⟨p0,p1,p2,p3,p4,p5,p6,p7,p8,p9,p10,p11,p12,p13,p14,-⟩:=hc (o:=oa+j*15) λk _ e=>de (Mc k _ e);obtain⟨q0,q1,q2,q3,q4,q5,q6,q7,q8,q9,q10,q11,q12,q13,q14,-⟩:=hc (W:=wr.alloc (cO #[fk,fn,sV a12 cl.length gh,sV j7 ags.length ft,tk,tn,sV zR ta.length MF,tv,ts,sV avj lo.length c19,sV agk rq.length agl,sV agm en.length agn,sV ago bo.length agp,sV agq rb.length agr,rs] 149)) (o:=ob+j*15) λk _ e=>cD _ (de (xE k _ e));refine pO ?_;intro jS sQ;have N4:=ah (aD (x:=.cells #[fk,fn,.slice a22 cl.length TB,.slice a23 ags.length O4,tk,tn,.slice a26 ta.length Ua,tv,ts,.slice a29 lo.length c29,.slice a210 rq.length ai1,.slice ai2 en.length ai3,.slice a212 bo.length ai4,.slice a213 rb.length ai5,rs] 149) (show(wr.alloc (.cells #[fk,fn,.slice a12 cl.length gh,.slice j7 ags.length ft,tk,tn,.slice zR ta.length MF,tv,ts,.slice avj lo.length c19,.slice agk rq.length agl,.slice agm en.length agn,.slice ago bo.length agp,.slice agq rb.length agr,rs] 149)).heap[wr.heap.size]?=some (.cells #[fk,fn,.slice a12 cl.length gh,.slice j7 ags.length ft,tk,tn,.slice zR ta.length MF,tv,ts,.slice avj lo.length c19,.slice agk rq.length agl,.slice agm en.length agn,.slice ago bo.length agp,.slice agq rb.length agr,rs] 149) by rw[heap_alloc,aI rfl]));have nA:Hid (((wr.alloc (.cells #[fk,fn,.slice a12 cl.length gh,.slice j7 ags.length ft,tk,tn,.slice zR ta.length MF,tv,ts,.slice avj lo.length c19,.slice agk rq.length agl,.slice agm en.length agn,.slice ago bo.length agp,.slice agq rb.length agr,rs] 149)).alloc (.cells #[fk,fn,.slice a22 cl.length TB,.slice a23 ags.length O4,tk,tn,.slice a26 ta.length Ua,tv,ts,.slice a29 lo.length c29,.slice a210 rq.length ai1,.slice ai2 en.length ai3,.slice a212 bo.length ai4,.slice a213 rb.length ai5,rs] 149)).heap[wr.heap.size+1]?=some (.cells #[fk,fn,.slice a22 cl.length TB,.slice a23 ags.length O4,tk,tn,.slice a26 ta.length Ua,tv,ts,.slice a29 lo.length c29,.slice a210 rq.length ai1,.slice ai2 en.length ai3,.slice a212 bo.length ai4,.slice a213 rb.length ai5,rs] 149)):=ah mT;have fq:=ah ((hK.alloc (cO #[fk,fn,sV a12 cl.length gh,sV j7 ags.length ft,tk,tn,sV zR ta.length MF,tv,ts,sV avj lo.length c19,sV agk rq.length agl,sV agm en.length agn,sV ago bo.length agp,sV agq rb.length agr,rs] 149)).alloc (cO #[fk,fn,sV a22 cl.length TB,sV a23 ags.length O4,tk,tn,sV a26 ta.length Ua,tv,ts,sV a29 lo.length c29,sV a210 rq.length ai1,sV ai2 en.length ai3,sV a212 bo.length ai4,sV a213 rb.length ai5,rs] 149));revert hK aL;refine ct ?_;intro hK aL;obtain⟨a0,a1,-,-,-,-,-,-,-,-,-,-,-,-,ti,-⟩:=cc N4.out;obtain⟨b0,b1,-,-,-,-,-,-,-,-,-,-,-,-,b14,-⟩:=cc nA.out;have a2:=bc N4 2;have b2:=bc nA 2;go_wp2_with fail;refine bD (Wa _ _ _ _ _ _ h2 (Wz.kept fq λ_ _ _ e=>e) (vb2.kept fq λ_ _ _ e=>e)) λz1 KK=>?_;revert fq;refine pL ?_;intro hA1 PJ fq;have a3:=bc hA1 3;have b3:=bc PJ 3;go_wp2_with fail;refine bD ((aj7 (zh f)) _ _ _ _ _ _ h3 (YO.kept fq λ_ _ _ e=>e) (YP.kept fq λ_ _ _ e=>e)) λz2 KK=>?_;revert fq;refine pM ?_;intro RO Jd fq;obtain⟨-,-,-,-,a4,a5,a6,a7,a8,-⟩:=cc RO.out;obtain⟨-,-,-,-,b4,b5,b6,b7,b8,-⟩:=cc Jd.out;go_wp2_with fail;refine bD (zh f _ _ _ _ _ _ h4 (vta.kept fq λ_ _ _ e=>e) (vtb.kept fq λ_ _ _ e=>e)) λz3 KK=>?_;revert fq;refine rI ?_;intro hA3 Mp fq;have a9:=bc hA3 9;have b9:=bc Mp 9;go_wp2_with fail;refine bD ((aj7 (zh f)) _ _ _ _ _ _ h9 (va9.kept fq λ_ _ _ e=>e) (vb9.kept fq λ_ _ _ e=>e)) λz4 KK=>?_;revert fq;refine pN ?_;intro hA4 Xu fq;have oN:=bc hA4 10;have Pn:=bc Xu 10;go_wp2_with fail;refine bD ((aaY (th f)) _ _ _ _ _ _ sG (amg.kept fq λ_ _ _ e=>e) (amk.kept fq λ_ _ _ e=>e)) λz5 KK=>?_;have hA5:=ah (aJ hA4.out KK);have hB5:=ah (aJ Xu.out KK);replace fq:=ah (fq.trans' KK);have nJ:=bc hA5 11;have Sb:=bc hB5 11;go_wp2_with fail;refine bD ((aaY (th f)) _ _ _ _ _ _ Oq (amh.kept fq λ_ _ _ e=>e) (aml.kept fq λ_ _ _ e=>e)) λz6 KK=>?_;have hA6:=ah (aJ hA5.out KK);have ZG:=ah (aJ hB5.out KK);replace fq:=ah (fq.trans' KK);have a12:=bc hA6 12;have Sc:=bc ZG 12;go_wp2_with fail;refine bD ((Wb f) _ _ _ _ _ _ Pp (ami.kept fq λ_ _ _ e=>e) (amm.kept fq λ_ _ _ e=>e)) λz7 KK=>?_;have hA7:=ah (aJ hA6.out KK);have hB7:=ah (aJ ZG.out KK);replace fq:=ah (fq.trans' KK);have j7:=bc hA7 13;have L8:=bc hB7 13;go_wp2_with fail;refine bD ((Wb f) _ _ _ _ _ _ Ps (amj.kept fq λ_ _ _ e=>e) (amn.kept fq λ_ _ _ e=>e)) λz8 KK=>?_;have hA8:=ah (aJ hA7.out KK);have hB8:=ah (aJ hB7.out KK);exact J6
  exact fL
def agt:Row->Bool
 |[.str _,.sl [],.sl [],.sl un,.sl re,.sl se]=>un.all shN&&re.all shN&&se.all shN
 |_=>false
def acy{r:Row}(h:agt r=true):∃pn un re se,r=[.str pn,.sl [],.sl [],.sl un,.sl re,.sl se]/\(∀r∈un,shN r=true)/\(∀r∈re,shN r=true)/\(∀r∈se,shN r=true):=by
 unfold agt at h;split at h
 .simp only[dD,dV] at h;exact⟨_,_,_,_,rfl,h.1.1,h.1.2,h.2⟩
 .cases h
def aoV:SmL 65 agt:=by
 refine fN ?_;intro S S' w rows a cap gF b vE lC eF v3 u3;go_enter func65,ntmps65;go_wp2_with fail;go_loopg [5] rows.length (λgg s5 wr=>∃k:Nat,s5=iV k/\k+gg=rows.length/\Kept aK w wr)
 case atStart=>exact⟨0,rfl,by omega,Kept.refl _ _⟩
 case round=>
  obtain⟨j,rfl,zC,hK⟩:=hrel;by_cases hj:j < rows.length
  .refine fP ?_;intro row aL nw;obtain⟨pn,un,re,se,rfl,h3,h4,h5⟩:=acy nw;revert nw h3 h4 h5;refine jU ?_;intro nw h3 h4 h5;obtain⟨ga,oa,rfl,-,ca,ri,Mc⟩:=v3.out.elem aL;obtain⟨gb,ob,rfl,-,cb,nF,xE⟩:=u3.out.elem aL;obtain⟨nJ,iE,a12,gh,j7,ft,ti,js,xz,Rd,rfl,va1,Wz,YO,va4,va5,-⟩:=ri.SX;obtain⟨a21,c21,a22,TB,a23,O4,a24,T8,a25,T9,rfl,vb1,vb2,YP,vb4,vb5,-⟩:=nF.SX;revert va1 Wz YO va4 va5 vb1 vb2 YP vb4 vb5;refine zQ ?_;intro va1 Wz YO va4 va5 vb1 vb2 YP vb4 vb5;have de:∀{p:Addr} {u},w.cell? p=some u->wr.cell? p=some u:=λh=>hK.aq h (λe=>e);obtain⟨p0,p1,p2,p3,p4,p5,-⟩:=hc (o:=oa+j*6) λk _ e=>de (Mc k _ e);obtain⟨q0,q1,q2,q3,q4,q5,-⟩:=hc (W:=wr.alloc (cO #[pn,sV nJ 0 iE,sV a12 0 gh,sV j7 un.length ft,sV ti re.length js,sV xz se.length Rd] 171)) (o:=ob+j*6) λk _ e=>cD _ (de (xE k _ e));refine pO ?_;intro jS sQ;have N4:=ah (aD (x:=.cells #[pn,.slice a21 0 c21,.slice a22 0 TB,.slice a23 un.length O4,.slice a24 re.length T8,.slice a25 se.length T9] 171) (show(wr.alloc (.cells #[pn,.slice nJ 0 iE,.slice a12 0 gh,.slice j7 un.length ft,.slice ti re.length js,.slice xz se.length Rd] 171)).heap[wr.heap.size]?=some (.cells #[pn,.slice nJ 0 iE,.slice a12 0 gh,.slice j7 un.length ft,.slice ti re.length js,.slice xz se.length Rd] 171) by rw[heap_alloc,aI rfl]));have nA:Hid (((wr.alloc (.cells #[pn,.slice nJ 0 iE,.slice a12 0 gh,.slice j7 un.length ft,.slice ti re.length js,.slice xz se.length Rd] 171)).alloc (.cells #[pn,.slice a21 0 c21,.slice a22 0 TB,.slice a23 un.length O4,.slice a24 re.length T8,.slice a25 se.length T9] 171)).heap[wr.heap.size+1]?=some (.cells #[pn,.slice a21 0 c21,.slice a22 0 TB,.slice a23 un.length O4,.slice a24 re.length T8,.slice a25 se.length T9] 171)):=ah mT;have fq:=ah ((hK.alloc (cO #[pn,sV nJ 0 iE,sV a12 0 gh,sV j7 un.length ft,sV ti re.length js,sV xz se.length Rd] 171)).alloc (cO #[pn,sV a21 0 c21,sV a22 0 TB,sV a23 un.length O4,sV a24 re.length T8,sV a25 se.length T9] 171));revert hK aL;refine ct ?_;intro hK aL;clear Mc xE de ri nF;obtain⟨a0,-,a2,-⟩:=cc N4.out;obtain⟨b0,-,b2,-⟩:=cc nA.out;go_wp2_with fail;obtain⟨G0,hG0⟩:∃G,G=gk:=⟨_,rfl⟩
   obtain⟨wb,hwb⟩:∃W,W=(wr.alloc (cO #[pn,sV nJ 0 iE,sV a12 0 gh,sV j7 un.length ft,sV ti re.length js,sV xz se.length Rd] 171)).alloc (cO #[pn,sV a21 0 c21,sV a22 0 TB,sV a23 un.length O4,sV a24 re.length T8,sV a25 se.length T9] 171):=⟨_,rfl⟩
   rw[<-hwb] at N4 nA fq|-;clear hwb a0 b0 a2 b2;go_loopg [8] 0 (λgg s8 w2=>s8=iV 0/\w2=wb)
   case atStart=>exact⟨rfl,rfl⟩
   case round=>
    obtain⟨rfl,rfl⟩:=hrel;obtain⟨-,a1,a2,-⟩:=cc N4.out;obtain⟨-,b1,b2,-⟩:=cc nA.out;go_wp2_with fail;refine bD ((aj5 (zh 0)) _ _ _ _ _ _ ai (va1.kept fq λ_ _ _ e=>e) (vb1.kept fq λ_ _ _ e=>e)) λz1 KK=>?_;revert fq;refine pL ?_;intro hA1 PJ fq;clear N4 nA a1 b1 a2 b2;have a3:=bc hA1 3;have b3:=bc PJ 3;go_wp2_with fail;refine bD (Wa _ _ _ _ _ _ h3 (YO.kept fq λ_ _ _ e=>e) (YP.kept fq λ_ _ _ e=>e)) λz2 KK=>?_;revert fq;refine pM ?_;intro RO Jd fq;clear hA1 PJ a3 b3;have a4:=bc RO 4;have b4:=bc Jd 4;go_wp2_with fail;refine bD (Wa _ _ _ _ _ _ h4 (va4.kept fq λ_ _ _ e=>e) (vb4.kept fq λ_ _ _ e=>e)) λz3 KK=>?_;revert fq;refine rI ?_;intro hA3 Mp fq;clear RO Jd a4 b4;have a5:=bc hA3 5;have b5:=bc Mp 5;go_wp2_with fail;refine bD (Wa _ _ _ _ _ _ h5 (va5.kept fq λ_ _ _ e=>e) (vb5.kept fq λ_ _ _ e=>e)) λz4 KK=>?_;revert fq;refine pN ?_;intro hA4 Xu fq;clear hA3 Mp a5 b5;go_wp2_with fail;go_roundg (G0 - 1)
    case measure=>omega
    case rel=>exact⟨j+1,rfl,by omega,fq⟩
  exact fL
end Go.Proofs.Gm
