/- BaseDrivers. No condition. -/
import Derived.Test.YtibajhihfaggfaaGreatDoorQAM
import Derived.Test.YtibajhihfaggfaaGreatDoorQAN
set_option linter.all false
set_option maxRecDepth 100000
set_option maxHeartbeats 0
namespace Go.Proofs.Gm
open Go.Proofs.Tryz Go.RowKit Go.Maps Go.Proofs.Bm
variable {l:Zi}{C:Ctx}{nm:Yz}{S:Wq}{v:YE}
def an.form{w:YC}{rows:Zg}(h:an S w (.sl rows) v):∃a c,v=sV a rows.length c:=by cases h<;>exact⟨_,_,rfl⟩
def sC{w:YC}(h:PS C w l)(h5:C.x5=some (.bool false))(s:TC){b:YR}{B:TG}(hi:aO (tx s) l=B)(hb:b=bs (tx s):=by rfl)(hs:((tx s).all λc=>decide (c < 256))=true:=by decide):
  Calls prog 108 #[pP C,.string b] w λe w'=>e=.returned (.bool B)/\PS C w' (if B=true then l.tail else l)/\Kept (ch C) w w':=by
 subst hi;exact Bg h h5 s hb hs
def aiy(C:Ctx)(S:Wq)(row:Row)(r:Zi)(w:YC)(e:TP)(w':YC):Prop:=(∃v,e=.returned v/\FeV (λb=>w.heap.size<=b∨S b) w' row v)/\PS C w' r/\Kept (ch C) w w'
def Tn{fs cl:Y9}{F:Nat}{r1:Zi}(h1:word 1 l=some (nm,r1)):oE fs cl F l=(do
  let(ag,r) <-(if aO "(" r1 then do let(ag,r) <-ml fs F r1.tail;let r <-cK ")" r;some (ag,r) else some ([],r1))
  let(ty,r) <-(if aO ":" r then mj fs F r.tail else some (Br,r))
  if aO ";" r then
   if Jg ty==0||ag.length > 0 then none else
   some ([.int 1,.str nm,.sl (strs cl),.sl ag]++ty++[.sl [],.sl [],.sl [],.sl [],.sl [],.bool false],r.tail)
  else if aO "deferred" r then none else do
  let(rq,r) <-UI "require" F r
  let(lo,r) <-(if aO "local" r then ml fs F r.tail else some ([],r))
  let r <-cK "do" r
  let(b,r) <-dy F r
  let(en,r) <-UI "ensure" F r
  let(rs,rb,r) <-(if aO "rescue" r then do let(x,r) <-dy F r.tail;some (true,x,r) else some (false,[],r))
  let r <-cK "end" r
  some ([.int 2,.str nm,.sl (strs cl),.sl ag]++ty++[.sl lo,.sl rq,.sl en,.sl b,.sl rb,.bool rs],r)):=by
 simp only[oE,h1,cF,Ae]
def VO{F:Nat}(dx:F<=6000){C:Ctx}{w:YC}{l r:Zi}{cl:Y9}{row:Row}{S:Wq}{v:YE}(h:PS C w l)(h5:C.x5=some (.bool false))(fx:∀s∈C.fs,bW s)(WO:∀s∈C.fs,gB false false true s=false)(kc:an S w (.sl (strs cl)) v)(hS:∀b,S b->b≠C.p)(hx:oE C.fs cl F l=some (row,r)):Calls prog 114 #[pP C,v] w (aiy C S row r w):=by
 obtain⟨ca,cc,rfl⟩:∃a c,v=.slice a (strs cl).length c:=kc.form;obtain⟨⟨nm,r1⟩,h1,-⟩:=aw.1 (show(word 1 l).bind _=some (row,r) from by simpa only[oE,cF] using hx);rw[Tn h1] at hx;simp only[cF,UI] at hx;obtain⟨⟨ag,r3⟩,h2,hx⟩:=aw.1 hx;obtain⟨⟨ty,r4⟩,h4,hx⟩:=aw.1 hx;dsimp only at h4 hx;have S0:=(ST.start h).box (cO #[oZ,eS,nS,nS,oZ,eS,nS,false,false,nS,nS,nS,nS,nS,false] 149);revert h5 fx WO hS kc h1 h2 h4 hx;refine hd9 ?_;intro h5 fx WO hS kc h1 h2 h4 hx;go_enter func114,ntmps114;go_wp2_with fail;refine S0.c (gd (k:=1) S0.ps h5 h1) λw1 S1=>?_;have S2:=S1.box (cO #[oZ,nm,.slice ca (strs cl).length cc,nS,oZ,eS,nS,false,false,nS,nS,nS,nS,nS,false] 149);go_wp2_with fail;obtain⟨B11,afu⟩:∃B,aO "(" r1=B:=⟨_,rfl⟩
 refine(sC S2.ps h5 "(" afu).mono ?_;rintro e w3 ⟨rfl,P,K⟩;have S3:=S2.aB P K;replace afu:=ah afu;go_upto_if 11 with fail;go_cut [] from 11 to 16 (λwc=>∃a3 c3,ST C w r3 [(w1,cO #[oZ,nm,.slice ca (strs cl).length cc,sV a3 ag.length c3,oZ,eS,nS,false,false,nS,nS,nS,nS,nS,false] 149),(w,cO #[oZ,eS,nS,nS,oZ,eS,nS,false,false,nS,nS,nS,nS,nS,false] 149)] [] [(.sl ag,sV a3 ag.length c3)] wc)
 case first=>
  cases B11 with
  |true=>
   rw[aI rfl] at S3;have h2:=h2.out;rw[aI afu.out] at h2;obtain⟨⟨a2,r2⟩,LH,h2⟩:=aw.1 h2;obtain⟨q,hm,h2⟩:=aw.1 h2
   cases h2;go_wp2_with fail;refine(Vz dx fx WO S3.ps h5 LH).mono ?_;rintro e w4 ⟨⟨a3,c3,rfl,hv,-⟩,P,K⟩;have S4:=S3.IM P K hv;have d3:=Bm.bc (S4.heap 0) 3;have f3:=S4.lg 0 3;go_wp2_with fail;have S5:=S4.st 0 3 (sV a3 a2.length c3);refine(dc S5.ps h5 ")" hm).mono ?_;rintro e w6 ⟨rfl,P,K⟩;have S6:=S5.aB P K;go_wp2_with fail;go_meet
   case rel=>exact⟨_,_,S6⟩
  |false=>
   have h2:=h2.out;rw[aE (by rw[afu.out];simp)] at h2
   cases h2;rw[aE ai] at S3;have SN:=S3.nil;exact kl
 case rest=>
  obtain⟨a3,c3,S4⟩:=hcut;go_wp2_with fail;obtain⟨B18,afv⟩:∃B,aO ":" r3=B:=⟨_,rfl⟩
  refine bY (sC S4.ps h5 ":" afv) λw5 P K=>?_;have S5:=S4.aB P K;replace afv:=ah afv;go_upto_if 18 with fail;go_cut [] from 18 to 21 (λwc=>∃(tk:Int) (tn:Yz) (kids:Zg) (tv ts:TG) (ta:YS) (tl tc:Nat),ty=[.int tk,.str tn,.sl kids,.bool tv,.bool ts]/\ST C w r4 [(w1,cO #[oZ,nm,.slice ca (strs cl).length cc,sV a3 ag.length c3,tk,tn,sV ta tl tc,tv,ts,nS,nS,nS,nS,nS,false] 149),(w,cO #[oZ,eS,nS,nS,oZ,eS,nS,false,false,nS,nS,nS,nS,nS,false] 149)] [] [(.sl kids,sV ta tl tc),(.sl ag,sV a3 ag.length c3)] wc)
  case first=>
   cases B18 with
   |true=>
    rw[aI rfl] at S5;have h4:=h4.out;rw[aI afv.out] at h4;go_wp2_with fail;refine(Vy F dx C _ _ _ _ fx WO S5.ps h5 h4).mono ?_;rintro e w6 ⟨⟨v,rfl,tk,tn,kids,tv,ts,ta,tl,tc,rfl,rfl,hv⟩,P,K⟩;have S6:=S5.IM P K hv;obtain⟨-,-,-,-,d4,d5,d6,d7,d8,-⟩:=Bm.cc (S6.heap 0);have f4:=λj=>S6.lg 0 j;go_wp2_with fail;have S7:=S6.st 0 4 (iV tk);have S8:=S7.st 0 5 (.string (bs tn));have S9:=S8.st 0 6 (sV ta tl tc);have ie:=S9.st 0 7 (.bool tv);have ke:=ie.st 0 8 (.bool ts);go_meet
    case rel=>exact⟨tk,tn,kids,tv,ts,ta,tl,tc,rfl,ke⟩
   |false=>
    have h4:=h4.out;rw[aE (by rw[afv.out];simp)] at h4
    cases h4;rw[aE ai] at S5;have SN:=S5.nil;go_wp2_with fail;go_meet
    case rel=>exact⟨0,[],[],false,false,none,0,0,rfl,SN⟩
  case rest=>
   obtain⟨tk,tn,kids,tv,ts,ta,tl,tc,rfl,S6⟩:=hcut;go_wp2_with fail;have hx:=hx.out;have aiz:=Bi S6.ps h5 ";" (aV aj);split at hx
   .rename_i hs;split at hx
    .cases hx
    rename_i hk
    cases hx;have U5:tk≠0/\ag=[]:=by simp only[Jg,j5,dU,oM,rV] at hk;exact⟨hk.1,JK ab⟩
    obtain⟨xi,rfl⟩:=U5;rw[hs] at aiz;have jF:(tk==0)=false:=gH.2 xi;refine aiz.mono ?_;rintro e w7 ⟨rfl,K⟩;have S7:=S6.zd K;have d4:=Bm.bc (S7.heap 0) 4;have f4:=S7.lg 0 4;have d3:=Bm.bc (S7.heap 0) 3;have f3:=S7.lg 0 3;go_wp2_with fail;refine S7.c (dP S7.ps h5 ";" hs) λw8 S8=>?_;have d0:=Bm.bc (S8.heap 0) 0;have f0:=S8.lg 0 0;have BK:=S8.st 0 0 (iV 1);have hl:=BK.heap 0;have hb:=BK.heap 1;go_wp2_with (first|refine T6 hl ?_|refine str hb ?_);have S9:=BK.row 1 #[iV 1,nm,.slice ca (strs cl).length cc,.slice a3 ([]:Zg).length c3,tk,tn,sV ta tl tc,tv,ts,nS,nS,nS,nS,nS,false];refine ou (S9.heap 1) ?_;have U:∀{W:YC} {t:T} {v:YE},an w W t v->an (λb=>w.heap.size<=b∨S b) W t v:=λh=>h.mono λ_ hb _=>.inl hb;have BE:=(kc.kept S9.sg.kp (λb hb _ e=>hS b hb e)).mono (S':=λb=>w.heap.size<=b∨S b) λ_ hb _=>.inr hb;exact⟨⟨_,rfl,_,_,_,_,_,_,_,_,_,_,_,_,_,_,_,_,_,_,_,_,_,_,_,_,_,_,_,_,_,_,_,rfl,.cons (.int _) (.cons (.str _) (.cons BE (.cons (U (S9.new 1)) (.cons (.int _) (.cons (.str _) (.cons (U (S9.new 0)) (.cons (.bool _) (.cons (.bool _) (.cons .nil (.cons .nil (.cons .nil (.cons .nil (.cons .nil (.cons (.bool _) .nil))))))))))))))⟩,S9.ps,S9.sg.kp⟩
   .rename_i hs;split at hx
    .cases hx
    rename_i hdf;obtain⟨⟨rq,r5⟩,h5q,hx⟩:=aw.1 hx;obtain⟨⟨lo,r6⟩,h6,hx⟩:=aw.1 hx;obtain⟨r7,h7,hx⟩:=aw.1 hx;obtain⟨⟨bd,r8⟩,h8,hx⟩:=aw.1 hx;obtain⟨⟨en,r9⟩,h9,hx⟩:=aw.1 hx;obtain⟨⟨rs,rb,r10⟩,sG,hx⟩:=aw.1 hx;obtain⟨r11,Oq,hx⟩:=aw.1 hx
    cases hx;dsimp only at h6 h7 h8 h9 sG Oq;replace hs:aO ";" r4=false:=by simpa using hs
    replace hdf:aO "deferred" r4=false:=by simpa using hdf
    rw[hs] at aiz;revert h5q h6 h7 h8 h9 sG Oq hdf;refine TR ?_;intro h5q h6 h7 h8 h9 sG Oq hdf;refine aiz.mono ?_;rintro e w7 ⟨rfl,K⟩;have S7:=S6.zd K;go_wp2_with fail;refine bY (bU S7.ps h5 "deferred" hdf) λw8 P K=>?_;have S8:=S7.aB P K;have d0:=Bm.bc (S8.heap 0) 0;have f0:=S8.lg 0 0;go_wp2_with fail;have S9:=S8.st 0 0 (iV 2);obtain⟨B58,afw⟩:∃B,aO "require" r4=B:=⟨_,rfl⟩
    refine bY (sC S9.ps h5 "require" afw) λAT P K=>?_;have ie:=S9.aB P K;replace afw:=ah afw;go_upto_if 58 with fail;go_cut [] from 58 to 61 (λwc=>∃qa qc,ST C w r5 [(w1,cO #[iV 2,nm,.slice ca (strs cl).length cc,sV a3 ag.length c3,tk,tn,sV ta tl tc,tv,ts,nS,sV qa rq.length qc,nS,nS,nS,false] 149),(w,cO #[oZ,eS,nS,nS,oZ,eS,nS,false,false,nS,nS,nS,nS,nS,false] 149)] [] [(.sl rq,sV qa rq.length qc),(.sl kids,sV ta tl tc),(.sl ag,sV a3 ag.length c3)] wc)
    case first=>
     cases B58 with
     |true=>
      rw[aI rfl] at ie;have h5q:=h5q.out;rw[aI afw.out] at h5q;go_wp2_with fail;refine(rQ dx ie.ps h5 h5q).mono ?_;rintro e xS ⟨⟨qa,qc,rfl,hv,-⟩,P,K⟩;have ke:=ie.IM P K hv;have d10:=Bm.bc (ke.heap 0) 10;have f10:=ke.lg 0 10;go_wp2_with fail;have jx:=ke.st 0 10 (sV qa rq.length qc);go_meet
      case rel=>exact⟨_,_,jx⟩
     |false=>
      have h5q:=h5q.out;rw[aE (by rw[afw.out];simp)] at h5q
      cases h5q;rw[aE ai] at ie;have SN:=ie.nil;exact kl
    case rest=>
     obtain⟨qa,qc,ke⟩:=hcut;go_wp2_with fail;obtain⟨B63,afx⟩:∃B,aO "local" r5=B:=⟨_,rfl⟩
     refine bY (sC ke.ps h5 "local" afx) λvl P K=>?_;have jx:=ke.aB P K;replace afx:=ah afx;go_upto_if 63 with fail;go_cut [] from 63 to 66 (λwc=>∃la lc,ST C w r6 [(w1,cO #[iV 2,nm,.slice ca (strs cl).length cc,sV a3 ag.length c3,tk,tn,sV ta tl tc,tv,ts,sV la lo.length lc,sV qa rq.length qc,nS,nS,nS,false] 149),(w,cO #[oZ,eS,nS,nS,oZ,eS,nS,false,false,nS,nS,nS,nS,nS,false] 149)] [] [(.sl lo,sV la lo.length lc),(.sl rq,sV qa rq.length qc),(.sl kids,sV ta tl tc),(.sl ag,sV a3 ag.length c3)] wc)
     case first=>
      cases B63 with
      |true=>rw[aI rfl] at jx;have h6:=h6.out;rw[aI afx.out] at h6;go_wp2_with fail;refine(Vz dx fx WO jx.ps h5 h6).mono ?_;rintro e ND ⟨⟨la,lc,rfl,hv,-⟩,P,K⟩;have mx:=jx.IM P K hv;have d9:=Bm.bc (mx.heap 0) 9;have f9:=mx.lg 0 9;go_wp2_with fail;have qo:=mx.st 0 9 (sV la lo.length lc);exact Ev
      |false=>
       have h6:=h6.out;rw[aE (by rw[afx.out];simp)] at h6
       cases h6;rw[aE ai] at jx;exact E5
     case rest=>
      obtain⟨la,lc,mx⟩:=hcut;go_wp2_with fail;refine bY (dc mx.ps h5 "do" h7) λZY P K=>?_;have qo:=mx.aB P K;go_wp2_with fail;refine((VG 6000 (aM _) F dx).2 C _ _ _ _ qo.ps h5 h8).mono ?_;rintro e WM ⟨⟨ba,bc,rfl,hv,-⟩,P,K⟩;have BP:=qo.IM P K hv;have d12:=Bm.bc (BP.heap 0) 12;have f12:=BP.lg 0 12;go_wp2_with fail;have Qd:=BP.st 0 12 (sV ba bd.length bc);obtain⟨B73,afy⟩:∃B,aO "ensure" r8=B:=⟨_,rfl⟩
      refine bY (sC Qd.ps h5 "ensure" afy) λw17 P K=>?_;have E2:=Qd.aB P K;replace afy:=ah afy;go_upto_if 73 with fail;go_cut [] from 73 to 76 (λwc=>∃ea ec,ST C w r9 [(w1,cO #[iV 2,nm,.slice ca (strs cl).length cc,sV a3 ag.length c3,tk,tn,sV ta tl tc,tv,ts,sV la lo.length lc,sV qa rq.length qc,sV ea en.length ec,sV ba bd.length bc,nS,false] 149),(w,cO #[oZ,eS,nS,nS,oZ,eS,nS,false,false,nS,nS,nS,nS,nS,false] 149)] [] [(.sl en,sV ea en.length ec),(.sl bd,sV ba bd.length bc),(.sl lo,sV la lo.length lc),(.sl rq,sV qa rq.length qc),(.sl kids,sV ta tl tc),(.sl ag,sV a3 ag.length c3)] wc)
      case first=>
       cases B73 with
       |true=>rw[aI rfl] at E2;have h9:=h9.out;rw[aI afy.out] at h9;go_wp2_with fail;refine(rQ dx E2.ps h5 h9).mono ?_;rintro e w18 ⟨⟨ea,ec,rfl,hv,-⟩,P,K⟩;have BD:=E2.IM P K hv;have d11:=Bm.bc (BD.heap 0) 11;have f11:=BD.lg 0 11;go_wp2_with fail;have xv:=BD.st 0 11 (sV ea en.length ec);exact Ep
       |false=>
        have h9:=h9.out;rw[aE (by rw[afy.out];simp)] at h9
        cases h9;rw[aE ai] at E2;exact EZ
      case rest=>
       obtain⟨ea,ec,BD⟩:=hcut;go_wp2_with fail;obtain⟨B78,afz⟩:∃B,aO "rescue" r9=B:=⟨_,rfl⟩
       refine bY (sC BD.ps h5 "rescue" afz) λw19 P K=>?_;have xv:=BD.aB P K;replace afz:=ah afz;go_upto_if 78 with fail;go_cut [] from 78 to 82 (λwc=>∃ra rc,ST C w r10 [(w1,cO #[iV 2,nm,.slice ca (strs cl).length cc,sV a3 ag.length c3,tk,tn,sV ta tl tc,tv,ts,sV la lo.length lc,sV qa rq.length qc,sV ea en.length ec,sV ba bd.length bc,sV ra rb.length rc,rs] 149),(w,cO #[oZ,eS,nS,nS,oZ,eS,nS,false,false,nS,nS,nS,nS,nS,false] 149)] [] [(.sl rb,sV ra rb.length rc),(.sl en,sV ea en.length ec),(.sl bd,sV ba bd.length bc),(.sl lo,sV la lo.length lc),(.sl rq,sV qa rq.length qc),(.sl kids,sV ta tl tc),(.sl ag,sV a3 ag.length c3)] wc)
       case first=>
        cases B78 with
        |true=>
         rw[aI rfl] at xv;have sG:=sG.out;rw[aI afz.out] at sG;obtain⟨⟨x,r12⟩,jq,sG⟩:=aw.1 sG
         cases sG;have d14:=Bm.bc (xv.heap 0) 14;have f14:=xv.lg 0 14;go_wp2_with fail;have BQ:=xv.st 0 14 (.bool true);refine((VG 6000 (aM _) F dx).2 C _ _ _ _ BQ.ps h5 jq).mono ?_;rintro e w21 ⟨⟨ra,rc,rfl,hv,-⟩,P,K⟩;have Mi:=BQ.IM P K hv;have d13:=Bm.bc (Mi.heap 0) 13;have f13:=Mi.lg 0 13;go_wp2_with fail;have LK:=Mi.st 0 13 (sV ra x.length rc);go_meet
         case rel=>exact⟨_,_,LK⟩
        |false=>
         have sG:=sG.out;rw[aE (by rw[afz.out];simp)] at sG
         cases sG;rw[aE ai] at xv;have SN:=xv.nil;exact kl
       case rest=>obtain⟨ra,rc,BQ⟩:=hcut;go_wp2_with fail;refine BQ.c (dc BQ.ps h5 "end" Oq) λw21 Mi=>?_;have BK:=Mi;have hl:=BK.heap 0;have hb:=BK.heap 1;go_wp2_with (first|refine T6 hl ?_|refine str hb ?_);have LK:=BK.row 1 #[iV 2,nm,.slice ca (strs cl).length cc,sV a3 ag.length c3,tk,tn,sV ta tl tc,tv,ts,sV la lo.length lc,sV qa rq.length qc,sV ea en.length ec,sV ba bd.length bc,sV ra rb.length rc,rs];refine ou (LK.heap 1) ?_;have U:∀{W:YC} {t:T} {v:YE},an w W t v->an (λb=>w.heap.size<=b∨S b) W t v:=λh=>h.mono λ_ hb _=>.inl hb;have BE:=(kc.kept LK.sg.kp (λb hb _ e=>hS b hb e)).mono (S':=λb=>w.heap.size<=b∨S b) λ_ hb _=>.inr hb;exact⟨⟨_,rfl,_,_,_,_,_,_,_,_,_,_,_,_,_,_,_,_,_,_,_,_,_,_,_,_,_,_,_,_,_,_,_,rfl,.cons (.int _) (.cons (.str _) (.cons BE (.cons (U (LK.new 6)) (.cons (.int _) (.cons (.str _) (.cons (U (LK.new 5)) (.cons (.bool _) (.cons (.bool _) (.cons (U (LK.new 3)) (.cons (U (LK.new 4)) (.cons (U (LK.new 1)) (.cons (U (LK.new 2)) (.cons (U (LK.new 0)) (.cons (.bool _) .nil))))))))))))))⟩,LK.ps,LK.sg.kp⟩
def YJ{w:YC}(h:PS C w l)(mM:C.x5=some (.bool false))(g:aO "[" l=false):Calls prog 195 #[pP C] w λe w'=>e=.returned (sV none 0 0)/\PS C w' l/\Kept (ch C) w w':=by revert h mM g;refine jk ?_;intro h mM g;go_enter func195,ntmps195;go_wp2_with fail;refine bY (bU h mM "[" g) λw1 P1 K1=>?_;exact El
def YK{F:Nat}(dx:F<=6000){C:Ctx}{w:YC}{l r:Zi}{row:Row}(h:PS C w l)(h5:C.x5=some (.bool false))(hx:nc F l=some (row,r))(eK:∀nm r1,word 2 l=some (nm,r1)->gB false true true nm=false):Calls prog 111 #[pP C] w (X1 C row r w):=by
 simp only[nc,cF] at hx;obtain⟨⟨nm,r1⟩,h1,hx⟩:=aw.1 hx;simp only at hx;split at hx
 .cases hx
 rename_i hg;obtain⟨⟨re,r2⟩,h2,hx⟩:=aw.1 hx;obtain⟨r3,hm,hx⟩:=aw.1 hx
 cases hx;dsimp only at hm;have hg':aO "[" r1=false/\aO "rename" r1=false/\aO "undefine" r1=false:=by simp only[j5,rV,gI] at hg;exact⟨hg.1.1,hg.1.2,hg.2⟩
 have hsl:aO "select" r2=false:=by
  unfold cK at hm;split at hm
  .rename_i h;exact bj h aj
  .cases hm
 have zr:=eK nm r1 h1;have S0:=(ST.start h).box (cO #[eS,nS,nS,nS,nS,nS] 171);revert h5 h1 h2 hm hg' hsl zr;refine Wy ?_;intro h5 h1 h2 hm hg' hsl zr;go_enter func111,ntmps111;go_wp2_with fail;refine bY (rR S0.ps h5 false true true h1 zr) λw1 P K=>?_;have S1:=(S0.aB P K).box (cO #[.string (bs nm),nS,nS,nS,nS,nS] 171);go_wp2_with fail;refine bY (YJ S1.ps h5 hg'.1) λw2 P K=>?_;have S2:=S1.aB P K;have d:=bc (S2.heap 0) 1;have d2:=S2.lg 0 1;go_wp2_with fail;have S3:=S2.st 0 1 (sV none 0 0);refine bY (bU S3.ps h5 "rename" hg'.2.1) λw3 P K=>?_;have S4:=S3.aB P K;go_wp2_with fail;refine bY (bU S4.ps h5 "undefine" hg'.2.2) λw4 P K=>?_;have S5:=S4.aB P K;go_wp2_with fail;rcases tE (aO "redefine" r1) with b|b
 .have h2:=h2.out;rw[aI b] at h2;obtain⟨⟨xs,r4⟩,hn,h2⟩:=aw.1 h2
  cases h2;refine bY (dP S5.ps h5 "redefine" b) λw5 P K=>?_;have S6:=S5.aB P K;go_wp2_with fail;refine(Q1 hn S6.ps h5 dx).mono ?_;rintro e w6 ⟨⟨a,c,rfl,hv,-⟩,P,K⟩;have S7:=S6.IM P K hv;have d:=bc (S7.heap 0) 4;have d2:=S7.lg 0 4;go_wp2_with fail;have S8:=S7.st 0 4 (.slice a (strs xs).length c);refine bY (bU S8.ps h5 "select" hsl) λw7 P K=>?_;have SA:=S8.aB P K;go_wp2_with fail;refine SA.c (dc SA.ps h5 ";" hm) λw8 SB=>?_;have hl:=SB.heap 0;have hb:=SB.heap 1;go_wp2_with (first|refine T6 hl ?_|refine str hb ?_);have SC:=SB.row 1 #[.string (bs nm),nS,nS,nS,.slice a (strs xs).length c,nS];refine ou (SC.heap 1) ?_;exact⟨⟨_,rfl,nm,a,_,c,rfl,.cons (.str _) (.cons .nil (.cons .nil (.cons .nil (.cons (SC.new 0) (.cons .nil .nil)))))⟩,SC.ps,SC.sg.kp⟩
 .have h2:=h2.out;rw[aE (by rw[b];simp)] at h2
  cases h2;refine bY (bU S5.ps h5 "redefine" b) λw5 P K=>?_;have S6:=S5.aB P K;go_wp2_with fail;refine bY (bU S6.ps h5 "select" hsl) λw6 P K=>?_;have SA:=S6.aB P K;go_wp2_with fail;refine SA.c (dc SA.ps h5 ";" hm) λw7 SB=>?_;have hl:=SB.heap 0;have hb:=SB.heap 1;go_wp2_with (first|refine T6 hl ?_|refine str hb ?_);have SC:=SB.row 1 #[.string (bs nm),nS,nS,nS,nS,nS];refine ou (SC.heap 1) ?_;exact⟨⟨_,rfl,nm,none,0,0,rfl,.cons (.str _) (.cons .nil (.cons .nil (.cons .nil (.cons .nil (.cons .nil .nil)))))⟩,SC.ps,SC.sg.kp⟩
def af5{w:YC}{t:aF}{r:Zi}(h:PS C w (t::r)):Calls prog 107 #[pP C] w λe w'=>∃x y:Int,e=.returned (.agg #[x,y])/\Kept aK w w':=by
 obtain⟨cap,c0⟩:=h.c0t;obtain⟨n,a,b,e1,c1,bQ,bL,q1,q2,q3,q4⟩:=h.tok (k:=0) rfl;have hlen:=h.len;simp only[fS] at bQ q1 q2 q3 q4;have nz:(0:Int)<=(n:Int):=ab;have lL:((n:Int) < (C.L.length:Int)):=ab;replace c0:=cD (cO #[oZ,oZ] 42) c0;replace c1:=cD (cO #[oZ,oZ] 42) c1;replace q3:=cD (cO #[oZ,oZ] 42) q3;replace q4:=cD (cO #[oZ,oZ] 42) q4;have hb:(w.alloc (.cells #[oZ,oZ] 42)).heap[w.heap.size]?=some (.cells #[oZ,oZ] 42):=ao;have hK:=(Kept.refl aK w).alloc (cO #[oZ,oZ] 42);revert hb hK;refine ct ?_;intro hb hK;go_enter func107,ntmps107;go_wp2_with fail;go_quiet (fail)
 go_wp2_with fail;refine aY [some 13,some 14,some 15,some 16,some 17,some 18,some 19,some 20,some 21,some 22,some 23,none] [0,1,2,3,4,5,6,7,8,9,10,11] (A:=?_) (λlb u V=>((lb 11=false->Kept aK (w.alloc (cO #[oZ,oZ] 42)) V)/\(lb 11=true->V.heap[w.heap.size]?=some (cO #[a,iV b] 42)/\Kept aK w V))/\VT [some (pP C),some (pP C),some (.pointer C.p),some (sV C.g C.L.length cap),some (pP C),some (pP C),some (.pointer (some ⟨C.p,1,none⟩)),some (iV n),some (.pointer (some ⟨C.g,n*4,none⟩)),some (.pointer (some ⟨C.g,n*4+2,none⟩)),some (.agg #[a,iV b]),none] lb u) af af (λu=>?_) (λlb u h0=>⟨⟨λ_=>(Kept.drewN (Kept.refl aK (w.alloc (cO #[oZ,oZ] 42)))).drew,λe=>vX⟩,VT.none rfl h0⟩) ?_ (λlb u V hl hI=>?_);rotate_left
 .exact bK
 .repeat' first|apply Bm.be.cons|exact Bm.be.nil
  all_goals intro lb u V K hl hn hf hI j8
  .exact eV
  .have e0:=hI.2 0 _ rfl (hn 0 af);exact uq
  .have e1:=hI.2 1 _ rfl (hn 1 af);exact Bb
  .have e2:=hI.2 2 _ rfl (hn 2 af);have d0:=(hI.1.1 (hf 11 af)).aq c0 (λe=>e);exact kj
  .exact iP
  .have e4:=hI.2 4 _ rfl (hn 4 af);exact uo
  .have e5:=hI.2 5 _ rfl (hn 5 af);exact Ed
  .have e6:=hI.2 6 _ rfl (hn 6 af);have d0:=(hI.1.1 (hf 11 af)).aq c1 (λe=>e);exact mK
  .exact J5
  .exact uH
  .have e9:=hI.2 9 _ rfl (hn 9 af);have d0:=(hI.1.1 (hf 11 af)).aq q3 (λe=>e);have d1:=(hI.1.1 (hf 11 af)).aq q4 (λe=>e);go_simp;exact j8 _ _ _ ⟨hI.1,hI.2.yes 10⟩ (by rw[e9];try rfl)
  .have zv:=hI.2 10 _ rfl (hn 10 af);have k:=hI.1.1 hl;have jy:=aJ hb k;refine stw (x:=.tmp 2) (y:=.tmp 23) (hx:=rfl) (hy:=zv) jy ?_;exact j8 _ _ _ ⟨⟨λe=>bM,λ_=>⟨lz _ _ _ _ _ _ jy,(hK.out.trans' k).trans (fH V _ _) λb bQ e=>by omega⟩⟩,hI.2.no 11⟩ rfl
 obtain⟨gJ,WD⟩:=hI.1.2 (hl 11 aj);go_wp2_with fail;refine ou gJ ?_;exact⟨a,b,rfl,WD⟩
def an.and{S':Wq}{w:YC}{t:T}(h:an S w t v):an S' w t v->an (λb=>S b/\S' b) w t v:=by
 induction h with
 |int n=>intro _;exact .int n
 |str s=>intro _;exact .str s
 |bool b=>intro _;exact .bool b
 |nil=>intro _;exact .nil
 |sl rows g off cap wd c hS hg oG hm hw hc hv ih=>
  intro h2;generalize ht:T.sl rows=t at h2;generalize hvv:Value.slice (some ⟨g,off,none⟩) rows.length cap=vv at h2
  cases h2 with
  |int n=>cases ht
  |str s=>cases ht
  |bool b=>cases ht
  |nil=>cases hvv
  |sl rows2 g2 arS vE wd2 c2 hS2 Of aol cg TS L9 jo=>
   cases ht;injection hvv with e1 e2 e3;injection e1 with e1;injection e1 with e1 e4;subst e1 e4 e3;refine .sl rows g off cap wd c ⟨hS,hS2⟩ hg oG hm hw hc λk j row t hk hj=>ih k j row t hk hj ?_;have hwd:wd2=wd:=by have h1:=hw row (cm hk);have h2:=TS row (cm hk);omega
   subst hwd;have h1:=hc k j row t hk hj;have h2:=L9 k j row t hk hj;rw[h1] at h2;have:=j6 h2;rw[this];exact jo k j row t hk hj
def ST.aoO{w V:YC}{bs:List (Nat×Obj)}{os:List Own}{ds:List (T×Value)}(h:ST C w l bs os ds V){rw:Row}{cs:YT}{T:UB}(g:Nat)(hg:V.heap.size=g)(hr:aP (Fr w bs os) V rw cs):
  ST C w l bs os ((.sl [rw],sV g 1 1)::ds) (V.alloc (cO cs.toArray T)):=by subst hg;exact h.lay hr
def ldg{ops:Ws}{rest:RM}{o:RZ}{a:Act}{w:YC}{Q:VN}{x:Rj}{ty:UB}{g:Nat}{t:UB}{cs:Zt}(hg:w.heap[g]?=some (.cells cs t (0,0)))(h:wpList prog ops Q rest (a.put o.dst (.agg cs)) w)(hw:Region.wanted o (yielded ops a.tmps)=true:=by rfl)(ho:o.op=.load ty x:=by rfl)(hx:a.eval x=.pointer g:=by rfl)(hi:isRow prog ty cs.size=true:=by kernel_rfl):wpList prog ops Q (o::rest) a w:=by obtain⟨d,h1,h2,h3⟩:=qV hi;unfold wpList;rw[aI hw];exact .inl (wp_load_row ty x ho g hx t cs (0,0) d hg h1 yN h3 h)
def af6(h:zX.contains nm=false):gB true true true nm=false:=by simp only[zX,MQ,IY,wX,Qr] at h;simp[gB,h.1,h.2.1,h.2.2.1,h.2.2.2]
def af7(h:zW.contains nm=false):gB false true true nm=false:=by simp only[zW,MQ,IY,wX,Qr] at h;simp[gB,h.1,h.2.1,h.2.2]
def amb(h:zX.contains nm=false):gB false false true nm=false:=by simp only[zX,MQ,IY,wX,Qr] at h;simp[gB,h.1,h.2.1]
def V6{a b:TC}{r:Zi}(h:cK (tx a) l=some r)(cR:(tx a==tx b)=false):aO (tx b) l=false:=by
 unfold cK at h;split at h
 .rename_i hh;exact bj hh cR
 .cases h
end Go.Proofs.Gm
