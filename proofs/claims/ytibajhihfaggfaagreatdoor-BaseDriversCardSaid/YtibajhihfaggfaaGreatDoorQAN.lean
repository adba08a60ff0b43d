/- Part of BaseDrivers. No condition. -/
import Derived.Test.YtibajhihfaggfaaGreatDoorQAL
set_option linter.all false
set_option maxRecDepth 100000
set_option maxHeartbeats 0
namespace Go.Proofs.Gm
open Go.Proofs.Tryz Go.RowKit Go.Maps Go.Proofs.Bm
variable {C:Ctx}{l:Zi}{p:Prop}{V:YC}
def ME(f:Nat):Prop:=∀(C:Ctx) (w:YC) (l r:Zi) (row:Row),PS C w l->C.x5=some (.bool false)->sZ f l=some (row,r)->Calls prog 254 #[pP C] w (Bv C row r w)
def Iv(f:Nat):Prop:=∀(C:Ctx) (w:YC) (l r:Zi) (rows:Zg),PS C w l->C.x5=some (.bool false)->dy f l=some (rows,r)->Calls prog 198 #[pP C] w (fR C 8 rows r w)
def aoi{w:YC}(h:PS C w l)(h5:C.x5=some (.bool false))(h1:jM l=true)(h2:(dv l==1||aO "Result" l)=true):Calls prog 282 #[pP C] w λe w'=>e=.returned (.bool true)/\Kept aK w w':=by have:=LJ h h5;rwa[h1,h2] at this
def aoj{w:YC}(h:PS C w l)(h5:C.x5=some (.bool false))(h1:jM l=false):Calls prog 282 #[pP C] w λe w'=>e=.returned (.bool false)/\Kept aK w w':=by have:=LJ h h5;rwa[h1,A3] at this
def aca{f:Nat}(ihE:qn f):∀(C:Ctx) (w:YC) (l r:Zi) (row:Row),PS C w l->C.x5=some (.bool false)->jM l=true->sZ (f+1) l=some (row,r)->Calls prog 254 #[pP C] w (Bv C row r w):=by
 intro C w l r row h h5 db hp;simp only[sZ,cF] at hp;have S0:=(ST.start h).box (cO #[oZ,eS,oZ,nS,nS,nS,nS,nS] 239);replace h5:=ah h5;rw[db,aI rfl] at hp;split at hp
 .cases hp
 rename_i hk;have A8:(dv l==1||aO "Result" l)=true:=by cases hq:(dv l==1||aO "Result" l) with|true=>rfl|false=>rw[hq] at hk;exact absurd rfl hk
 obtain⟨⟨nm,r1⟩,ht,hp⟩:=aw.1 hp;obtain⟨r2,hm,hp⟩:=aw.1 hp;obtain⟨⟨x,r3⟩,hx,hp⟩:=aw.1 hp
 cases hp;have ha:=ah (aoi S0.ps h5.out db A8);revert ht hm hx;refine jk ?_;intro ht hm hx;go_enter func254,ntmps254;go_wp2_with fail;refine ha.mono ?_;rintro e w1 ⟨rfl,K⟩;have S1:=S0.zd K;go_wp2_with fail;refine bY (Iu S1.ps h5 ht) λw2 P K=>?_;have S2:=S1.aB P K;go_wp2_with fail;refine bY (dc S2.ps h5 ":=" hm) λw3 P K=>?_;have S3:=S2.aB P K;go_wp2_with fail;refine(ihE C _ _ _ _ S3.ps h5 hx).mono ?_;rintro e w4 ⟨⟨v,rfl,xk,xn,xm,xs,xa,xl,xc,rfl,rfl,hv⟩,P,K⟩;have S4:=S3.IM P K hv;have S5:=S4.lay (T:=181) (cs:=[xk,xn,xm,sV xa xl xc]) (.cons (.int _) (.cons (.str _) (.cons (.int _) (.cons (S4.data 0) .nil))));have hb:=S5.heap 0;go_wp2_with (first|refine QW ?_|refine str hb ?_);have S6:=S5.row 0 #[iV 1,nm,oZ,sV w4 1 1,nS,nS,nS,nS];refine ou (S6.heap 0) ?_;exact S6.L4 (S6.new 0) .nil .nil .nil .nil
def Yv{f:Nat}(hf:f<=6000)(ihE:qn f)(iha:wR f)(Kz:Iv f):∀(C:Ctx) (w:YC) (l r:Zi) (row:Row),PS C w l->C.x5=some (.bool false)->jM l=false->sZ (f+1) l=some (row,r)->Calls prog 254 #[pP C] w (Bv C row r w):=by
 intro C w l r row h h5 db hp;simp only[sZ,cF] at hp;have S0:=(ST.start h).box (cO #[oZ,eS,oZ,nS,nS,nS,nS,nS] 239);replace h5:=ah h5;rw[db,aE ai] at hp;have ha:=ah (aoj S0.ps h5.out db);go_enter func254,ntmps254;go_wp2_with fail;refine ha.mono ?_;rintro e w1 ⟨rfl,K⟩;have S1:=S0.zd K;go_wp2_with fail;rcases tE (aO "create" l) with b1|b1
 .rw[aI b1] at hp;obtain⟨⟨nm,r1⟩,ht,hp⟩:=aw.1 hp;obtain⟨r2,hm,hp⟩:=aw.1 hp;obtain⟨⟨m,r3⟩,hn,hp⟩:=aw.1 hp;obtain⟨⟨ags,r4⟩,hg,hp⟩:=aw.1 hp
  cases hp;refine bY (dP S1.ps h5 "create" b1) λw2 P K=>?_;have S2:=S1.aB P K;go_wp2_with fail;refine bY (Iu S2.ps h5 ht) λw3 P K=>?_;have S3:=S2.aB P K;have S4:=S3.box (cO #[oZ,eS,oZ,nS,nS,nS,nS,nS] 239);have hb:=S4.heap 0;go_wp2_with (first|refine QW ?_|refine str hb ?_);have S5:=S4.row 0 #[iV 3,nm,oZ,nS,nS,nS,nS,nS];refine bY (dc S5.ps h5 "." hm) λw6 P K=>?_;have S6:=S5.aB P K;go_wp2_with fail;refine bY (gd (k:=1) S6.ps h5 hn) λw7 P K=>?_;have S7:=S6.aB P K;go_wp2_with fail;refine(iha C _ _ _ _ S7.ps h5 hg).mono ?_;rintro e w8 ⟨⟨ga,gc,rfl,hv,-⟩,P,K⟩;have S8:=S7.IM P K hv;have S9:=S8.lay (T:=181) (cs:=[iV 6,m,oZ,sV ga ags.length gc]) (.cons (.int _) (.cons (.str _) (.cons (.int _) (.cons (S8.data 0) .nil))));have d:=Bm.bc (S9.heap 0) 3;have d2:=S9.lg 0 3;have ie:=S9.st 0 3 (sV w8 1 1);have hl:=ie.heap 0;have hb:=ie.heap 1;go_wp2_with (first|refine T6 hl ?_|refine str hb ?_);have ke:=ie.row 1 #[iV 3,nm,oZ,sV w8 1 1,nS,nS,nS,nS];refine ou (ke.heap 1) ?_;exact ke.L4 (ke.new 0) .nil .nil .nil .nil
 rw[aE (by rw[b1];simp)] at hp;refine bY (bU S1.ps h5 "create" b1) λw2 P K=>?_;have S2:=S1.aB P K;go_wp2_with fail;rcases tE (aO "if" l) with b2|b2
 .rw[aI b2] at hp;obtain⟨⟨x,r1⟩,hx,hp⟩:=aw.1 hp;obtain⟨r2,hm,hp⟩:=aw.1 hp;obtain⟨⟨bd,r3⟩,lL,hp⟩:=aw.1 hp;refine bY (dP S2.ps h5 "if" b2) λw3 P K=>?_;have S3:=S2.aB P K;go_wp2_with fail;refine(ihE C _ _ _ _ S3.ps h5 hx).mono ?_;rintro e w4 ⟨⟨v,rfl,xk,xn,xm,xs,xa,xl,xc,rfl,rfl,hv⟩,P,K⟩;have S4:=S3.IM P K hv;have S5:=S4.lay (T:=181) (cs:=[xk,xn,xm,sV xa xl xc]) (.cons (.int _) (.cons (.str _) (.cons (.int _) (.cons (S4.data 0) .nil))));have S6:=S5.ajZ (cO #[oZ,eS,oZ,nS,nS,nS,nS,nS] 239) (w4.heap.size+1) ai;have hb:=S6.heap 0;go_wp2_with (first|refine QW ?_|refine str hb ?_);have S7:=S6.row 0 #[iV 4,eS,oZ,sV w4 1 1,nS,nS,nS,nS];refine bY (dc S7.ps h5 "then" hm) λw8 P K=>?_;have S8:=S7.aB P K;go_wp2_with fail;refine(Kz C _ _ _ _ S8.ps h5 lL).mono ?_;rintro e w9 ⟨⟨ba,bc,rfl,hv,-⟩,P,K⟩;have S9:=S8.IM P K hv;have d:=Bm.bc (S9.heap 0) 6;have d2:=S9.lg 0 6;go_wp2_with fail;have ie:=S9.st 0 6 (sV ba bd.length bc);split at hp
  .rename_i he;obtain⟨⟨el,r4⟩,hel,hp⟩:=aw.1 hp;obtain⟨r5,Pk,hp⟩:=aw.1 hp
   cases hp;refine bY (dP ie.ps h5 "else" he) λxS P K=>?_;have ke:=ie.aB P K;go_wp2_with fail;refine(Kz C _ _ _ _ ke.ps h5 hel).mono ?_;rintro e vl ⟨⟨la,lc,rfl,hv,-⟩,P,K⟩;have jx:=ke.IM P K hv;have d:=Bm.bc (jx.heap 0) 7;have d2:=jx.lg 0 7;go_wp2_with fail;have mx:=jx.st 0 7 (sV la el.length lc);refine mx.c (dc mx.ps h5 "end" Pk) λZY qo=>?_;have hl:=qo.heap 0;have hb:=qo.heap 1;go_wp2_with (first|refine T6 hl ?_|refine str hb ?_);have BP:=qo.row 1 #[iV 4,eS,oZ,sV w4 1 1,nS,nS,sV ba bd.length bc,sV la el.length lc];refine ou (BP.heap 1) ?_;exact BP.L4 (BP.new 2) .nil .nil (BP.new 1) (BP.new 0)
  .rename_i he;obtain⟨r5,Pk,hp⟩:=aw.1 hp
   cases hp;refine bY (bU ie.ps h5 "else" (by simpa using he)) λxS P K=>?_;have ke:=ie.aB P K;go_wp2_with fail;refine ke.c (dc ke.ps h5 "end" Pk) λvl jx=>?_;have hl:=jx.heap 0;have hb:=jx.heap 1;go_wp2_with (first|refine T6 hl ?_|refine str hb ?_);have mx:=jx.row 1 #[iV 4,eS,oZ,sV w4 1 1,nS,nS,sV ba bd.length bc,nS];refine ou (mx.heap 1) ?_;exact mx.L4 (mx.new 1) .nil .nil (mx.new 0) .nil
 rw[aE (by rw[b2];simp)] at hp;refine bY (bU S2.ps h5 "if" b2) λw3 P K=>?_;have S3:=S2.aB P K;go_wp2_with fail;rcases tE (aO "from" l) with b3|b3
 .rw[aI b3] at hp;obtain⟨⟨lB,r1⟩,hi,hp⟩:=aw.1 hp;obtain⟨⟨tg,r2⟩,hg,hp⟩:=aw.1 hp;obtain⟨r3,hu,hp⟩:=aw.1 hp;obtain⟨⟨x,r4⟩,hx,hp⟩:=aw.1 hp;obtain⟨⟨es,r5⟩,LH,hp⟩:=aw.1 hp;obtain⟨r6,gD,hp⟩:=aw.1 hp;obtain⟨⟨bd,r7⟩,lL,hp⟩:=aw.1 hp;obtain⟨r8,Pk,hp⟩:=aw.1 hp
  cases hp;refine bY (dP S3.ps h5 "from" b3) λw4 P K=>?_;have S4:=S3.aB P K;go_wp2_with fail;refine(Kz C _ _ _ _ S4.ps h5 hi).mono ?_;rintro e w5 ⟨⟨ia,ic,rfl,hv,-⟩,P,K⟩;have S5:=S4.IM P K hv;have S6:=S5.box (cO #[oZ,eS,oZ,nS,nS,nS,nS,nS] 239);have hb:=S6.heap 0;go_wp2_with (first|refine QW ?_|refine str hb ?_);have S7:=S6.row 0 #[iV 5,eS,oZ,nS,nS,sV ia lB.length ic,nS,nS];split at hg
  .rename_i hiv;refine bY (dP S7.ps h5 "invariant" hiv) λw8 P K=>?_;have S8:=S7.aB P K;go_wp2_with fail;refine(rQ hf S8.ps h5 hg).mono ?_;rintro e w9 ⟨⟨ta,tc,rfl,hv,-⟩,P,K⟩;have S9:=S8.IM P K hv;have d:=Bm.bc (S9.heap 0) 4;have d2:=S9.lg 0 4;go_wp2_with fail;have ie:=S9.st 0 4 (sV ta tg.length tc);refine bY (dc ie.ps h5 "until" hu) λxS P K=>?_;have ke:=ie.aB P K;go_wp2_with fail;refine(ihE C _ _ _ _ ke.ps h5 hx).mono ?_;rintro e vl ⟨⟨v,rfl,xk,xn,xm,xs,xa,xl,xc,rfl,rfl,hv⟩,P,K⟩;have jx:=ke.IM P K hv;have mx:=jx.box (cO #[xk,xn,xm,sV xa xl xc] 181);have d:=Bm.bc (mx.heap 1) 3;have d2:=mx.lg 1 3;go_wp2_with fail;have qo:=mx.st 1 3 (sV vl 1 1);split at LH
   .rename_i sF;obtain⟨⟨y,r9⟩,hy,LH⟩:=aw.1 LH
    cases LH;refine bY (dP qo.ps h5 "variant" sF) λWM P K=>?_;have BP:=qo.aB P K;have Qd:=BP.afq (x:=[xk,xn,xm,xs]) (wd:=4) (.cons (.int _) (.cons (.str _) (.cons (.int _) (.cons (BP.data 0) .nil)))) rfl;go_wp2_with fail;refine aY [some 74,some 75,some 76,some 77,some 78,some 79,some 80,none] [0,1,2,3,4,5,6,7] (A:=?_) (λlb u V=>(fun(Xa:List (Nat×Obj))=>(fun(Xb:List (T×Value))=>(fun(Xc:List Own)=>((lb 3=false->ST C w r4.tail Xa Xc (Xb) V)/\(lb 3=true->lb 4=false->∃(yk:Int) (yn:Yz) (ym:Int) (ys:Zg) (ya:YS) (yl yc:Nat),u 3=.agg #[yk,yn,ym,sV ya yl yc]/\y=[.int yk,.str yn,.int ym,.sl ys]/\ST C w r9 Xa Xc ((.sl ys,sV ya yl yc)::Xb) V)/\(lb 4=true->lb 5=false->∃a,u 4=sV a 1 1/\y.length=4/\ST C w r9 Xa Xc ((.sl [y],sV a 1 1)::Xb) V)/\(lb 5=true->lb 7=false->∃a2 c2,u 5=sV a2 2 c2/\ST C w r9 Xa [⟨181,4,sV a2 2 c2,[[xk,xn,xm,xs],y]⟩] (Xb) V)/\(lb 7=true->∃a2 c2,ST C w r9 [(w5,cO #[iV 5,eS,oZ,sV a2 2 c2,sV ta tg.length tc,sV ia lB.length ic,nS,nS] 239),(w,cO #[oZ,eS,oZ,nS,nS,nS,nS,nS] 239)] [⟨181,4,sV a2 2 c2,[[xk,xn,xm,xs],y]⟩] (Xb) V))/\VT [some (.pointer (some ⟨w5,3,none⟩)),some (sV vl 1 1),some (pP C),none,none,none,some (.pointer (some ⟨w5,3,none⟩)),none] lb u) [⟨181,4,sV vl 1 1,[[xk,xn,xm,xs]]⟩]) [(.sl xs,sV xa xl xc),(.sl tg,sV ta tg.length tc),(.sl lB,sV ia lB.length ic)]) [(w5,cO #[iV 5,eS,oZ,sV vl 1 1,sV ta tg.length tc,sV ia lB.length ic,nS,nS] 239),(w,cO #[oZ,eS,oZ,nS,nS,nS,nS,nS] 239)]) af af (λu=>?_) (λlb u h0=>⟨⟨λ_=>Qd.drew,λe=>qf,λe=>qe,λe=>qd,λe=>mX⟩,VT.none rfl h0⟩) ?_ (λlb u V hl hI=>?_);rotate_left
    .exact bK
    .repeat' first|apply Bm.be.cons|exact Bm.be.nil
     all_goals intro lb u V K hl hn hf hI hK
     .exact fV
     .have e0:=hI.2 0 _ rfl (hn 0 af);have d:V.cell? ⟨w5,3,none⟩=some (sV vl 1 1):=by exact Dj
      exact mH
     .exact oq
     .exact C5
     .exact JX
     .exact JV
     .exact ur
     .have e6:=hI.2 6 _ rfl (hn 6 af);obtain⟨a2,c2,e5,SC⟩:=hI.1.2.2.2.1 (hn 5 af) hl;have d:=Bm.bc (SC.heap 0) 3;have d2:=SC.lg 0 3;go_simp;exact hK undef _ _ ⟨⟨λe=>iN,λ_ e=>gL,λ_ e=>mV,λ_ e=>bM,λ_=>⟨_,_,SC.set 0 3 (sV a2 2 c2) #[iV 5,eS,oZ,sV a2 2 c2,sV ta tg.length tc,sV ia lB.length ic,nS,nS]⟩⟩,hI.2.no 7⟩ yd
    obtain⟨a2,c2,SE⟩:=hI.1.2.2.2.2 (hl 7 aj);have E2:=SE.Tm;go_wp2_with fail;refine bY (dc E2.ps h5 "loop" gD) λw18 P K=>?_;have BD:=E2.aB P K;go_wp2_with fail;refine(Kz C _ _ _ _ BD.ps h5 lL).mono ?_;rintro e w19 ⟨⟨ba,bc,rfl,hv,-⟩,P,K⟩;have xv:=BD.IM P K hv;have d:=Bm.bc (xv.heap 0) 6;have d2:=xv.lg 0 6;go_wp2_with fail;have BQ:=xv.st 0 6 (sV ba bd.length bc);refine BQ.c (dc BQ.ps h5 "end" Pk) λw21 Mi=>?_;have hl:=Mi.heap 0;have hb:=Mi.heap 1;go_wp2_with (first|refine T6 hl ?_|refine str hb ?_);have LK:=Mi.row 1 #[iV 5,eS,oZ,sV a2 2 c2,sV ta tg.length tc,sV ia lB.length ic,sV ba bd.length bc,nS];refine ou (LK.heap 1) ?_;exact LK.L4 (LK.new 1) (LK.new 3) (LK.new 4) (LK.new 0) .nil
   .rename_i sF
    cases LH;refine bY (bU qo.ps h5 "variant" (by simpa using sF)) λWM P K=>?_;have BP:=qo.aB P K;go_wp2_with fail;refine bY (dc BP.ps h5 "loop" gD) λw16 P K=>?_;have Qd:=BP.aB P K;go_wp2_with fail;refine(Kz C _ _ _ _ Qd.ps h5 lL).mono ?_;rintro e w17 ⟨⟨ba,bc,rfl,hv,-⟩,P,K⟩;have E2:=Qd.IM P K hv;have d:=Bm.bc (E2.heap 1) 6;have d2:=E2.lg 1 6;go_wp2_with fail;have BD:=E2.st 1 6 (sV ba bd.length bc);refine BD.c (dc BD.ps h5 "end" Pk) λw19 xv=>?_;have hl:=xv.heap 1;have hb:=xv.heap 2;go_wp2_with (first|refine T6 hl ?_|refine str hb ?_);have BQ:=xv.row 2 #[iV 5,eS,oZ,sV vl 1 1,sV ta tg.length tc,sV ia lB.length ic,sV ba bd.length bc,nS];refine ou (BQ.heap 2) ?_;exact BQ.L4 ((BQ.aj0 0 (.cons (.int _) (.cons (.str _) (.cons (.int _) (.cons (BQ.new 1) .nil)))))) (BQ.new 2) (BQ.new 3) (BQ.new 0) .nil
  .rename_i hiv
   cases hg;refine bY (bU S7.ps h5 "invariant" (by simpa using hiv)) λw8 P K=>?_;have S8:=S7.aB P K;go_wp2_with fail;refine bY (dc S8.ps h5 "until" hu) λw9 P K=>?_;have S9:=S8.aB P K;go_wp2_with fail;refine(ihE C _ _ _ _ S9.ps h5 hx).mono ?_;rintro e AT ⟨⟨v,rfl,xk,xn,xm,xs,xa,xl,xc,rfl,rfl,hv⟩,P,K⟩;have ie:=S9.IM P K hv;have ke:=ie.box (cO #[xk,xn,xm,sV xa xl xc] 181);have d:=Bm.bc (ke.heap 1) 3;have d2:=ke.lg 1 3;go_wp2_with fail;have jx:=ke.st 1 3 (sV AT 1 1);split at LH
   .rename_i sF;obtain⟨⟨y,r9⟩,hy,LH⟩:=aw.1 LH
    cases LH;refine bY (dP jx.ps h5 "variant" sF) λND P K=>?_;have mx:=jx.aB P K;have qo:=mx.afq (x:=[xk,xn,xm,xs]) (wd:=4) (.cons (.int _) (.cons (.str _) (.cons (.int _) (.cons (mx.data 0) .nil)))) rfl;go_wp2_with fail;refine aY [some 74,some 75,some 76,some 77,some 78,some 79,some 80,none] [0,1,2,3,4,5,6,7] (A:=?_) (λlb u V=>(fun(Xa:List (Nat×Obj))=>(fun(Xb:List (T×Value))=>(fun(Xc:List Own)=>((lb 3=false->ST C w r4.tail Xa Xc (Xb) V)/\(lb 3=true->lb 4=false->∃(yk:Int) (yn:Yz) (ym:Int) (ys:Zg) (ya:YS) (yl yc:Nat),u 3=.agg #[yk,yn,ym,sV ya yl yc]/\y=[.int yk,.str yn,.int ym,.sl ys]/\ST C w r9 Xa Xc ((.sl ys,sV ya yl yc)::Xb) V)/\(lb 4=true->lb 5=false->∃a,u 4=sV a 1 1/\y.length=4/\ST C w r9 Xa Xc ((.sl [y],sV a 1 1)::Xb) V)/\(lb 5=true->lb 7=false->∃a2 c2,u 5=sV a2 2 c2/\ST C w r9 Xa [⟨181,4,sV a2 2 c2,[[xk,xn,xm,xs],y]⟩] (Xb) V)/\(lb 7=true->∃a2 c2,ST C w r9 [(w5,cO #[iV 5,eS,oZ,sV a2 2 c2,nS,sV ia lB.length ic,nS,nS] 239),(w,cO #[oZ,eS,oZ,nS,nS,nS,nS,nS] 239)] [⟨181,4,sV a2 2 c2,[[xk,xn,xm,xs],y]⟩] (Xb) V))/\VT [some (.pointer (some ⟨w5,3,none⟩)),some (sV AT 1 1),some (pP C),none,none,none,some (.pointer (some ⟨w5,3,none⟩)),none] lb u) [⟨181,4,sV AT 1 1,[[xk,xn,xm,xs]]⟩]) [(.sl xs,sV xa xl xc),(.sl lB,sV ia lB.length ic)]) [(w5,cO #[iV 5,eS,oZ,sV AT 1 1,nS,sV ia lB.length ic,nS,nS] 239),(w,cO #[oZ,eS,oZ,nS,nS,nS,nS,nS] 239)]) af af (λu=>?_) (λlb u h0=>⟨⟨λ_=>qo.drew,λe=>qf,λe=>qe,λe=>qd,λe=>mX⟩,VT.none rfl h0⟩) ?_ (λlb u V hl hI=>?_);rotate_left
    .exact bK
    .repeat' first|apply Bm.be.cons|exact Bm.be.nil
     all_goals intro lb u V K hl hn hf hI hK
     .exact fV
     .have e0:=hI.2 0 _ rfl (hn 0 af);have d:V.cell? ⟨w5,3,none⟩=some (sV AT 1 1):=by exact Dj
      exact mH
     .exact oq
     .exact C5
     .exact JX
     .exact JV
     .exact ur
     .have e6:=hI.2 6 _ rfl (hn 6 af);obtain⟨a2,c2,e5,SC⟩:=hI.1.2.2.2.1 (hn 5 af) hl;have d:=Bm.bc (SC.heap 0) 3;have d2:=SC.lg 0 3;go_simp;exact hK undef _ _ ⟨⟨λe=>iN,λ_ e=>gL,λ_ e=>mV,λ_ e=>bM,λ_=>⟨_,_,SC.set 0 3 (sV a2 2 c2) #[iV 5,eS,oZ,sV a2 2 c2,nS,sV ia lB.length ic,nS,nS]⟩⟩,hI.2.no 7⟩ yd
    obtain⟨a2,c2,SE⟩:=hI.1.2.2.2.2 (hl 7 aj);have BP:=SE.Tm;go_wp2_with fail;refine bY (dc BP.ps h5 "loop" gD) λw16 P K=>?_;have Qd:=BP.aB P K;go_wp2_with fail;refine(Kz C _ _ _ _ Qd.ps h5 lL).mono ?_;rintro e w17 ⟨⟨ba,bc,rfl,hv,-⟩,P,K⟩;have E2:=Qd.IM P K hv;have d:=Bm.bc (E2.heap 0) 6;have d2:=E2.lg 0 6;go_wp2_with fail;have BD:=E2.st 0 6 (sV ba bd.length bc);refine BD.c (dc BD.ps h5 "end" Pk) λw19 xv=>?_;have hl:=xv.heap 0;have hb:=xv.heap 1;go_wp2_with (first|refine T6 hl ?_|refine str hb ?_);have BQ:=xv.row 1 #[iV 5,eS,oZ,sV a2 2 c2,nS,sV ia lB.length ic,sV ba bd.length bc,nS];refine ou (BQ.heap 1) ?_;exact BQ.L4 (BQ.new 1) .nil (BQ.new 3) (BQ.new 0) .nil
   .rename_i sF
    cases LH;refine bY (bU jx.ps h5 "variant" (by simpa using sF)) λND P K=>?_;have mx:=jx.aB P K;go_wp2_with fail;refine bY (dc mx.ps h5 "loop" gD) λZY P K=>?_;have qo:=mx.aB P K;go_wp2_with fail;refine(Kz C _ _ _ _ qo.ps h5 lL).mono ?_;rintro e WM ⟨⟨ba,bc,rfl,hv,-⟩,P,K⟩;have BP:=qo.IM P K hv;have d:=Bm.bc (BP.heap 1) 6;have d2:=BP.lg 1 6;go_wp2_with fail;have Qd:=BP.st 1 6 (sV ba bd.length bc);refine Qd.c (dc Qd.ps h5 "end" Pk) λw17 E2=>?_;have hl:=E2.heap 1;have hb:=E2.heap 2;go_wp2_with (first|refine T6 hl ?_|refine str hb ?_);have BD:=E2.row 2 #[iV 5,eS,oZ,sV AT 1 1,nS,sV ia lB.length ic,sV ba bd.length bc,nS];refine ou (BD.heap 2) ?_;exact BD.L4 ((BD.aj0 0 (.cons (.int _) (.cons (.str _) (.cons (.int _) (.cons (BD.new 1) .nil)))))) .nil (BD.new 2) (BD.new 0) .nil
 rw[aE (by rw[b3];simp)] at hp;refine bY (bU S3.ps h5 "from" b3) λw4 P K=>?_;have S4:=S3.aB P K;go_wp2_with fail;have avi:aO "check" l=false/\aO "separate" l=false:=by
  have key:∀s,aO s l=true->(s==tx "put")=false->(s==tx "retry")=false->(s==tx "raise")=false->(s=tx "check"∨s=tx "separate")->False:=by
   intro s hs n1 n2 n3 hor;rw[aE (by rw[bj hs n1];simp),aE (by rw[bj hs n2];simp),aE (by rw[bj hs n3];simp),aI (by rcases hor with rfl|rfl<;>rw[hs]<;>simp)] at hp
   cases hp
  exact⟨by cases hc:aO "check" l with
   |true=>exact(key _ hc aj aj aj (.inl rfl)).elim
   |false=>rfl,by cases hc:aO "separate" l with
   |true=>exact(key _ hc aj aj aj (.inr rfl)).elim
   |false=>rfl⟩
 refine bY (bU S4.ps h5 "check" avi.1) λw5 P K=>?_;have S5:=S4.aB P K;go_wp2_with fail;refine bY (bU S5.ps h5 "separate" avi.2) λw6 P K=>?_;have S6:=S5.aB P K;go_wp2_with fail;rcases tE (aO "retry" l) with b6|b6
 .rw[aE (by rw[bj (a:= "retry") (b:= "put") b6 aj];simp),aI b6] at hp
  cases hp;refine S6.c (dP S6.ps h5 "retry" b6) λw7 S7=>?_;have hb:=S7.heap 0;go_wp2_with (first|refine QW ?_|refine str hb ?_);have S8:=S7.row 0 #[iV 8,eS,oZ,nS,nS,nS,nS,nS];refine ou (S8.heap 0) ?_;exact S8.L4 (nm:=[]) .nil .nil .nil .nil .nil
 refine bY (bU S6.ps h5 "retry" b6) λw7 P K=>?_;have S7:=S6.aB P K;go_wp2_with fail;rcases tE (aO "raise" l) with b7|b7
 .rw[aE (by rw[bj (a:= "raise") (b:= "put") b7 aj];simp),aE (by rw[b6];simp),aI b7] at hp;obtain⟨⟨t,r1⟩,hw,hp⟩:=aw.1 hp;split at hp
  .cases hp
  rename_i h99;injection hp with hp;injection hp with Uy IP;subst Uy IP;obtain⟨q,lq,hlq,Mb,hqt⟩:∃q lq,l.tail=q::lq/\q.k=4/\t=q.t/\lq=r1:=by
   cases bQ:l.tail with
   |nil=>rw[bQ] at hw;cases hw
   |cons q lq=>
    rw[bQ] at hw;simp only[word] at hw;split at hw
    .rename_i h4;cases hw;exact⟨q,_,rfl,by simpa using h4,rfl,rfl⟩
    .cases hw
  obtain⟨rfl,rfl⟩:=hqt;refine bY (dP S7.ps h5 "raise" b7) λw8 P K=>?_;have S8:=S7.aB P K;rw[hlq] at S8;go_wp2_with fail;refine(ab9 S8.ps h5 Mb ab).mono ?_;rintro e w9 ⟨⟨v,rfl,k1,n1,m1,es,tags,lB,body,tp,ea,ta,ia,ba,la,em,ec,tm,tc,im,ic,bm,bc,lm,lc,aL,rfl,h1,h2,h3,h4,h6⟩,P,K⟩
  cases aL;have S9:=((((S8.IM P K h6).ON (h4.mono λ_ hb _=>S8.free hb)).ON (h3.mono λ_ hb _=>S8.free hb)).ON (h2.mono λ_ hb _=>S8.free hb)).ON (h1.mono λ_ hb _=>S8.free hb);have hb:=S9.heap 0;go_wp2_with (first|refine QW ?_|refine str hb ?_);have ie:=S9.row 0 #[iV 9,(bs []),iV (num q.t),sV ea em ec,sV ta tm tc,sV ia im ic,sV ba bm bc,sV la lm lc];refine ou (ie.heap 0) ?_;exact ie.L4 (ie.new 0) (ie.new 1) (ie.new 2) (ie.new 3) (ie.new 4)
 refine bY (bU S7.ps h5 "raise" b7) λw8 P K=>?_;have S8:=S7.aB P K;go_wp2_with fail;rcases tE (aO "put" l) with b8|b8
 .rw[aI b8] at hp;obtain⟨⟨x,r1⟩,hx,hp⟩:=aw.1 hp
  cases hp;refine bY (dP S8.ps h5 "put" b8) λw9 P K=>?_;have S9:=S8.aB P K;go_wp2_with fail;refine(ihE C _ _ _ _ S9.ps h5 hx).mono ?_;rintro e AT ⟨⟨v,rfl,xk,xn,xm,xs,xa,xl,xc,rfl,rfl,hv⟩,P,K⟩;have ie:=S9.IM P K hv;have ke:=ie.lay (T:=181) (cs:=[xk,xn,xm,sV xa xl xc]) (.cons (.int _) (.cons (.str _) (.cons (.int _) (.cons (ie.data 0) .nil))));have hb:=ke.heap 0;go_wp2_with (first|refine QW ?_|refine str hb ?_);have jx:=ke.row 0 #[iV 10,eS,oZ,sV AT 1 1,nS,nS,nS,nS];exact D9
 rw[aE (by rw[b8];simp)] at hp;refine bY (bU S8.ps h5 "put" b8) λw9 P K=>?_;have S9:=S8.aB P K;go_wp2_with fail;rw[aE (by rw[b6];simp),aE (by rw[b7];simp),aE (by rw[avi.1,avi.2];simp)] at hp;obtain⟨⟨x,r1⟩,hx,hp⟩:=aw.1 hp;split at hp
 .cases hp;refine(ihE C _ _ _ _ S9.ps h5 hx).mono ?_;rintro e AT ⟨⟨v,rfl,xk,xn,xm,xs,xa,xl,xc,rfl,rfl,hv⟩,P,K⟩;have ie:=S9.IM P K hv;have ke:=ie.lay (T:=181) (cs:=[xk,xn,xm,sV xa xl xc]) (.cons (.int _) (.cons (.str _) (.cons (.int _) (.cons (ie.data 0) .nil))));have hb:=ke.heap 0;go_wp2_with (first|refine QW ?_|refine str hb ?_);have jx:=ke.row 0 #[iV 2,eS,oZ,sV AT 1 1,nS,nS,nS,nS];exact D9
 .cases hp
def afr{f:Nat}(hf:f<=6000)(ihE:qn f)(iha:wR f)(Kz:Iv f):ME (f+1):=by
 intro C w l r row h h5 hp
 cases hs:jM l with
 |true=>exact aca ihE C w l r row h h5 hs hp
 |false=>exact Yv hf ihE iha Kz C w l r row h h5 hs hp
def adw(h:Shut p):p:=h
def adx(h:p):Shut p:=h
def ada(C:Ctx)(w:YC)(F:Nat)(rows:Zg)(r:Zi)(gg:Nat)(s3:YE)(wr:YC):Prop:=
 ∃(acc xs:Zg) (f:Nat) (rc:Zi),ST C w rc [] [⟨239,8,s3,acc⟩] [] wr/\dy f rc=some (xs,r)/\f<=F/\rows=acc++xs/\f<=gg/\acc.length+f<=6000
def ST.clr{w:YC}{bs:List (Nat×Obj)}{os:List Own}{ds:List (T×Value)}(h:ST C w l bs os ds V):ST C w l [] os [] V:=
 ⟨h.sg,h.fm.mono λb hb _=>⟨hb.1,hb.2.1,by simp,hb.2.2.2⟩,by simp,by simp,by simp,h.no,λi o hi=>(h.ow i o hi).mono λb hb _=>⟨hb.1,by simp,hb.2.2⟩,by simp⟩
def ST.form{C:Ctx}{w V:YC}{l:Zi}{bs:List (Nat×Obj)}{E:UB}{wd:Nat}{v:YE}{rows:Zg}{os:List Own}{ds:List (T×Value)}(h:ST C w l bs (⟨E,wd,v,rows⟩::os) ds V):∃a c,v=sV a rows.length c:=(h.ow 0 _ rfl).form
def ST.alF{w:YC}{r:Zi}{E:UB}{wd:Nat}{a:YS}{c:Nat}{rows:Zg}(h:ST C w r [] [⟨E,wd,sV a rows.length c,rows⟩] [] V):fR C wd rows r w (.returned (sV a rows.length c)) V:=
 ⟨⟨a,c,rfl,h.Tm.new 0,h.lens⟩,h.ps,h.sg.kp⟩
def Q2{F:Nat}(ih:∀f,f < F->ME f)(dx:F<=6000):Iv F:=by
 intro C w l r rows h h5 hp;have hrel:Hid (ada C w F rows r F (sV none 0 0) w):=ah ⟨[],rows,F,l,(ST.start h).own 239 8,hp,aM _,rfl,aM _,by simp;omega⟩;replace h5:=ah h5;go_enter func198,ntmps198;go_wp2_with fail;go_loopg [3] F (λgg s3 wr=>ada C w F rows r gg s3 wr)
 case atStart=>exact hrel
 case round=>
  obtain⟨acc,xs,f,rc,SS,hm,gT,aN,de,h6⟩:=hrel;obtain⟨a7,c7,rfl⟩:=SS.form
  cases f with
  |zero=>cases hm
  |succ f=>
  simp only[dy,cF] at hm;have jq:=Yp SS.ps h5;by_cases hc:il rc=true
  .rw[aI hc] at hm;obtain⟨⟨x,r1⟩,hx,cg⟩:=aw.1 hm;obtain⟨r2,xA,fy⟩:=aw.1 cg;obtain⟨⟨ys,r5⟩,hy,Xs⟩:=aw.1 fy
   cases Xs;dsimp only at xA hy;revert gT de h6 hx xA hy aN;refine Wy ?_;intro gT de h6 hx xA hy aN;rw[hc] at jq;replace jq:=ah jq;go_wp2_with fail;refine jq.mono ?_;rintro e w1 ⟨rfl,K⟩;have S1:=SS.zd K;go_wp2_with fail;refine(ih f bT C _ _ _ _ S1.ps h5 hx).mono ?_;rintro e w2 ⟨⟨v,rfl,k,nm,n,es,tags,lB,body,tp,ea,ta,ia,ba,la,em,ec,tm,tc,im,ic,bm,bc,lm,lc,rfl,rfl,h1,h2,h3,h4,h7⟩,P,K⟩;have akJ:=U0 _ _ _ _ hx k nm n es tags lB body tp rfl;have S2:=(((S1.IM P K h7).ON (h4.mono λ_ hb _=>S1.free hb)).ON (h3.mono λ_ hb _=>S1.free hb)).ON (h2.mono λ_ hb _=>S1.free hb);have S3:=(S2.ON (h1.mono λ_ hb _=>S1.free hb)).box (cO #[k,nm,n,sV ea em ec,sV ta tm tc,sV ia im ic,sV ba bm bc,sV la lm lc] 239);have d0:=Bm.bc (S3.heap 0) 0;by_cases jF:k=2
   .obtain⟨rest,rfl⟩:=akJ jF;obtain⟨g1,o1,rfl,rfl,hc6⟩:=aed (S3.data 0);have d3:=Bm.bc (S3.heap 0) 3;have kk2:(k==2)=true:=by rw[jF];rfl
    replace jF:=ah jF;go_wp2_with fail;refine S3.c (dc S3.ps h5 ";" xA) λw3 S4=>?_;have hl:=S4.heap 0;have S5:=S4.lay (T:=239) (cs:=[k,nm,n,sV (some ⟨g1,o1,none⟩) 1 ec,sV ta tm tc,sV ia im ic,sV ba bm bc,sV la lm lc]) (.cons (.int _) (.cons (.str _) (.cons (.int _) (.cons (S4.data 0) (.cons (S4.data 1) (.cons (S4.data 2) (.cons (S4.data 3) (.cons (S4.data 4) .nil))))))));replace S4:=ah S4;go_wp2_with (first|refine T6 hl ?_|(at_builtin;refine VF (T:=147) (x:=⟨239,8,sV a7 acc.length c7,acc⟩) (rows2:=[[k,nm,n,.sl [.int 6::rest],tags,lB,body,tp]]) (.tmp 28) (.tmp 30) S5 af Lw Hz (S5.data 0) rfl rfl ?_));exact ET
   .have kk2:(k==2)=false:=gH.2 jF;replace jF:=ah jF;go_wp2_with fail;refine S3.c (dc S3.ps h5 ";" xA) λw3 S4=>?_;have hl:=S4.heap 0;have S5:=S4.lay (T:=239) (cs:=[k,nm,n,sV ea em ec,sV ta tm tc,sV ia im ic,sV ba bm bc,sV la lm lc]) (.cons (.int _) (.cons (.str _) (.cons (.int _) (.cons (S4.data 0) (.cons (S4.data 1) (.cons (S4.data 2) (.cons (S4.data 3) (.cons (S4.data 4) .nil))))))));replace S4:=ah S4;go_wp2_with (first|refine T6 hl ?_|(at_builtin;refine VF (T:=147) (x:=⟨239,8,sV a7 acc.length c7,acc⟩) (rows2:=[[k,nm,n,es,tags,lB,body,tp]]) (.tmp 28) (.tmp 30) S5 af Lw Hz (S5.data 0) rfl rfl ?_));exact ET
  .rw[aE hc] at hm
   cases hm;simp only[gI] at hc;rw[hc] at jq;replace jq:=ah jq;rw[gp] at aN;subst aN;go_wp2_with fail;refine jq.mono ?_;rintro e w1 ⟨rfl,K⟩;have S1:=ah (SS.zd K);go_wp2;go_ret;exact S1.alF
def VG:∀F:Nat,F<=6000->∀f,f<=F->ME f/\Iv f:=by
 intro F;induction F with
 |zero=>
  intro _ f hf;have:f=0:=ab;subst this;have h0:ME 0:=λC w l r row h h5 hp=>by cases hp
  exact⟨h0,Q2 (λf hf=>by omega) ab⟩
 |succ F ih=>
  intro hF f hf;by_cases gT:f<=F
  .exact ih ab f gT
  have:f=F+1:=ab;subst this;have mu:=aaC 6000 (aM _) F ab;have hS:=afr (f:=F) ab mu.2.2.2.2.2 mu.2.2.2.2.1 (ih ab F (aM _)).2;exact⟨hS,Q2 (λf hf=>(ih ab f ab).1) hF⟩
end Go.Proofs.Gm
