/- BaseDrivers holds: Calls, CheckCalls, Driver and System agree with the reference implementation, and Driver is the text of the last class of System (the tied card). No condition. -/
import Derived.Test.YtibajhihfaggfaaGreatDoorCards
import Derived.Test.YtibajhihfaggfaaGreatDoorTie
import Derived.Test.YtibajhihfaggfaaGreatDoorQAY
set_option linter.all false
set_option maxRecDepth 100000
set_option maxHeartbeats 0
namespace Go.Proofs.YtibajhihfaggfaaGreatDoor.Bdr
open Go.Proofs.Tryz
def jf1:prog.inPlace 4=Rows.baseDriversRow.inPlace:=by kernel_rfl
def jf4:prog.varsNamed 4=Rows.baseDriversRow.named:=by kernel_rfl
def jf2:prog.unfollowed 4=true:=by kernel_rfl
def jf3:prog.recurses 4=true:=by kernel_rfl
def closed:joinedFacts prog 4 f4 (OpenSpec.ofChange Rows.baseDriversSpec).bare Rows.baseDriversRow=true:=by unfold joinedFacts;rw[jf1,jf2,jf3,jf4];kernel_rfl
end Go.Proofs.YtibajhihfaggfaaGreatDoor.Bdr
namespace Go.Proofs.YtibajhihfaggfaaGreatDoor.Bdr
open Go.Proofs.Tryz Go.ChangeShapes Go.WideShapes Go.ChangeAt Go.RowKit Go.Deep Go.Proofs.Bm Go.Proofs.Gm
def own:ownKnob prog.godebug=none:=by kernel_rfl
def laidOut:laidOutB prog=true:=by kernel_rfl
def apj(b off n:Nat):(⟨b,off,none⟩:Addr).add n=⟨b,off+n,none⟩:=by simp[Addr.add]
section
variable {H:Type}{wP:TypeId×Value -> H}{P:T1}{w:YC}{base:Nat}{spare:Nat -> Bool}{held:TG}
def at4{t e:UB}{fs:Array Field}{fuel:Nat}{cs:YT}{x:DataW H×List MemPlace}(ht:P.underlying t=some (.slice e))(he:P.underlying e=some (.struct fs))(abk:oneCellFields P fs=true)(hC:P.cellsOf e=fs.size)(h:DataW.trod wP P w base spare held fuel t cs=some x):(cs=[.slice none 0 0]/\x=(.nil,[]))∨∃(a:Addr) (len cap m:Nat) (D:Nat->DataW H) (Pl:Nat->List MemPlace),cs=[.slice (some a) len cap]/\base<=a.block/\len<=cap/\cap<=maxLen/\m=(if spare a.block then cap else len)/\x=(.slice ((List.range len).map D) ((List.range (m - len)).map λj=>D (len+j)),MemPlace.row a (m*fs.size)++(List.range m).flatMap Pl)/\∀i,i < m->∃(ys:List (DataW H×List MemPlace)) (n:Nat),D i=.agg (ys.map (·.1))/\Pl i=ys.flatMap (·.2)/\ys.length=fs.size/\∀(j:Nat) (f:Field),fs[j]?=some f->∃(v:YE) (y:DataW H×List MemPlace),w.cell? (a.add (i*fs.size+j))=some v/\ys[j]?=some y/\DataW.trod wP P w base spare held n f.type [v]=some y:=by
 rcases open_slice ht h with h0|⟨a,len,cap,m,n,D,Pl,fY,hb,hl,hm,Cj,hx,hi⟩
 .exact .inl h0
 .refine .inr ⟨a,len,cap,m,D,Pl,fY,hb,hl,hm,Cj,by rw[hC] at hx;exact hx,λi him=>?_⟩;obtain⟨NY,hc,ht'⟩:=hi i him;rw[hC] at hc;obtain⟨ys,n',hn',hy,hlen,hyl,hf⟩:=DataW.trod_struct he ht';obtain⟨_,kc,dq⟩:=World.cells?_some hc;simp only[Prod.mk.injEq] at hy;refine⟨ys,n',hy.1,hy.2,hyl,λj f hj=>?_⟩;obtain⟨ho,hk⟩:=hone_of abk j f hj;have QB:j < fs.size:=(aQ.1 hj).1;have xp:=dq j QB;have hv:NY[j]?=some (NY[j]'(by omega)):=ck ab;have h1:=hf j f hj;rw[ho,hk] at h1;have axe:(NY.drop j).take 1=[NY[j]'(by omega)]:=by rw[MN ab];rfl
  rw[axe] at h1;have hys:ys[j]?=some (ys[j]'(by omega)):=ck ab;refine⟨_,_,?_,hys,h1.trans hys⟩;rw[<-Go.Deep.add_add,xp,hv]
end
def axf{n:Int}(h:(Lit.int .i64 n).wf=true):-9223372036854775808<=n/\n<=9223372036854775807:=by have h':=h;simp[Lit.wf,IntKind.min,IntKind.max,IntKind.signed,IntKind.bits] at h';omega
def ac3{W:YC}{base:Nat}{a:Addr}{n c:Nat}(h:Value.okWide prog W .any base 48 (.slice (some a) n c)):a.spot=none/\a.block < W.heap.size:=by
 simp only[Value.okWide,underlying48,Cell.okWide,Cell.ok] at h;obtain⟨_,_,_,hs,row,cells,hr,_⟩:=h;refine⟨hs,?_⟩;unfold World.shape? at hr
 cases hb:W.heap[a.block]? with
 |none=>rw[hb] at hr;simp at hr
 |some o=>exact(aQ.1 hb).1
def avA{H:Type}{wP:TypeId×Value->H}{W:YC}{a0:YS}{len cap fuel base:Nat}{x:DataW H×List MemPlace}(ho:Value.okWide prog W .any base 48 (.slice a0 len cap))(hf:DataW.trod wP prog W 0 (λ_=>true) true fuel 48 [.slice a0 len cap]=some x):∃l:List Gm.SC,l.length=len/\Gm.auK l/\an (λ_=>True) W (.sl (Gm.axM l)) (.slice a0 l.length cap):=by
 rcases at4 underlying48 underlying59 af af hf with⟨fY,_⟩|⟨a,ar5,xV,m,D,Pl,fY,_,hl,hc,hm,_,hi⟩
 .simp at fY;obtain⟨rfl,rfl,rfl⟩:=fY;exact⟨[],rfl,nW,.nil⟩
 .simp at fY;obtain⟨rfl,rfl,rfl⟩:=fY;simp only[xN] at hm;obtain⟨hsp,hb⟩:=ac3 ho;obtain⟨b,off,spot⟩:=a;obtain rfl:spot=none:=hsp;have hex:∀i,∃x:Gm.SC,(bW x.1/\(-9223372036854775808<=x.2.1/\x.2.1<=9223372036854775807)/\-9223372036854775808<=x.2.2/\x.2.2<=9223372036854775807)/\
    (i < len->W.cell? ⟨b,off+(i*3),none⟩=some (.string (bs x.1))/\W.cell? ⟨b,off+(i*3+1),none⟩=some (.int .i64 x.2.1)/\W.cell? ⟨b,off+(i*3+2),none⟩=some (.int .i64 x.2.2)):=by
   intro i;by_cases hil:i < len
   .obtain⟨ys,n,_,_,_,fx⟩:=hi i ab;obtain⟨v0,y0,c0,_,r0⟩:=fx 0 _ rfl;obtain⟨v1,y1,c1,_,r1⟩:=fx 1 _ rfl;obtain⟨v2,y2,c2,_,r2⟩:=fx 2 _ rfl;obtain⟨s,e0,_,_⟩:=DataW.trod_string underlying9 r0;obtain⟨A,e1,_,wA⟩:=DataW.trod_int underlying3 r1;obtain⟨B,e2,_,wB⟩:=DataW.trod_int underlying3 r2;simp only[IZ,xO] at e0 e1 e2;subst e0 e1 e2;rw[apj] at c0 c1 c2;exact⟨(s.data.toList.map UInt8.toNat,A,B),⟨Rb s,axf wA,axf wB⟩,λ_=>⟨by rw[IC];exact c0,c1,c2⟩⟩
   .exact⟨([],0,0),⟨nW,by decide,by decide⟩,λh=>absurd h hil⟩
  obtain⟨g,hg⟩:=Classical.axiomOfChoice hex;have hlen:(Gm.axM ((List.range len).map g)).length=len:=by simp[Gm.axM]
  refine⟨(List.range len).map g,by simp,λs hs=>by obtain⟨k,_,rfl⟩:=dO.1 hs;exact(hg k).1,?_⟩;have aL:∀(k:Nat) (row:Row),(Gm.axM ((List.range len).map g))[k]?=some row->k < len/\row=[.str (g k).1,.int (g k).2.1,.int (g k).2.2]:=by
   intro k row h;have hk:k < len:=by have:=(dk.1 h).1;omega
   refine⟨hk,?_⟩;unfold Gm.axM at h;rw[qC,qC,List.getElem?_range hk] at h;exact(j6 h).symm
  have h1:=an.sl (S:=λ_=>True) (w:=W) (Gm.axM ((List.range len).map g)) b off cap 3 (λk j=>match j with|0=>.string (bs (g k).1)|1=>.int .i64 (g k).2.1|_=>.int .i64 (g k).2.2) bw hb ab hc (λrow h=>by
    obtain⟨k,hk⟩:=Xf.1 h;rw[(aL k row hk).2];rfl) (λk j row t h hj=>by
    obtain⟨hk,rfl⟩:=aL k row h;obtain⟨h0,h1,h2⟩:=(hg k).2 hk
    match j,hj with
    |0,_=>exact h0
    |1,_=>exact h1
    |2,_=>exact h2
    |_+3,hj=>simp at hj) (λk j row t h hj=>by
    obtain⟨hk,rfl⟩:=aL k row h
    match j,hj with
    |0,hj=>cases hj;exact .str _
    |1,hj=>cases hj;exact .int _
    |2,hj=>cases hj;exact .int _
    |_+3,hj=>simp at hj)
  rw[hlen] at h1;rw[Af,List.length_range];exact h1
def TQ{w:YC}(h:w.ShapedOpen prog):∃m,w.cell? ⟨1,0,none⟩=some (.int .i64 m):=by
 obtain⟨cs,hh,hs,hr⟩:=h.1 1 #[oZ] 3 (by rw[show prog.globals.size=9 by kernel_rfl];omega) af;obtain⟨ts,hts,_,mu⟩:=hr af;rw[show prog.cellTypes prog.depth 3=some [3] by kernel_rfl] at hts
 cases hts;have h1:0 < cs.size:=by rw[hs];decide
 obtain⟨u,hu',bL⟩:=mu 0 cs[0] (by simp[h1]);have:u=3:=by simpa using hu'.symm
 subst this;have xp:w.cell? ⟨1,0,none⟩=some cs[0]:=by simp[World.cell?,hh,h1]
 rw[xp];unfold Cell.ok at bL;rw[underlying3] at bL
 cases hv:cs[0]<;>rw[hv] at bL<;>first|exact⟨_,by rw[bL.1]⟩|simp at bL
def amL{W:YC}(hL:laidMet prog Rows.baseDriversRow.laid W)(eF:W.ShapedOpen prog):Env W/\P10 W:=by have h5:=M5 (M5 (M5 (M5 (M5 hL))));have he:(Rows.laid_strings_asciiSpace:DataW Unit)=Lib.tabData .u8 Lib.asciiSpaceTab:=af;rw[he] at h5;have h3:=M5 (M5 hL);have he3:(Rows.laid_internal_strconv_uint64pow10:DataW Unit)=Lib.tabData .u64 Lib.pow10Tab:=af;rw[he3] at h3;exact⟨⟨Lib.tabIs_of_head (g:=6) (t:=337) (e:=5) af af underlying337 underlying5 af af h5,TQ eF⟩,Lib.tabIs_of_head (g:=0) (t:=306) (e:=287) af af underlying306 underlying287 af af h3⟩
def contract(H:Type)(wP:TypeId×Value->H)(W:YC)(base:Nat)(args:Zt)(ds gs:List (DataW H))(before:List MemPlace)(hE:Env W/\P10 W)(yZ:∀(j:Nat) t v,f4.params[j]?=some t->args[j]?=some v->Value.okWide prog W .any base t v)(hW:DataW.Whole wP prog f4.params.toList Rows.baseDriversSpec.vars false W args.toList ds gs before):Calls prog 4 args W λe W'=>∃v,e=.returned v/\Rows.baseDriversSpec.post wP prog f4 false true false false W args v W':=by
 have hW':=hW;obtain⟨p,q,N4,hV,rfl,hfz,Ij⟩:=hW;have hA:DataW.TrodAll wP prog W 0 (λ_=>true) true f4.params.toList args.toList ds p:=N4;rw[Tryz.params4] at hA yZ;obtain⟨v0,v1,d0,d1,p0,p1,rfl,rfl,rfl,h0,h1⟩:=trodAll_two hA;obtain⟨rfl,rfl⟩:=trodVars_none hV;obtain⟨s,rfl⟩:=okWide_string underlying9 (yZ 0 9 v0 rfl rfl);obtain⟨a0,len,cap,rfl⟩:=okWide_slice underlying48 (yZ 1 48 v1 rfl rfl);have h0k:=h0;have h1k:=h1;obtain⟨fuel,hf⟩:=h1;simp only[gp] at hW';have bQ:∀x∈p0++p1,x.block < W.heap.size:=λx hx=>by simpa using hW'.lt x hx
 obtain⟨ns,rfl,bL,hx⟩:=avA (yZ 1 48 _ rfl rfl) hf;have apk:=axl (cls:=s.data.toList.map UInt8.toNat) (Rb s) bL hx hE.1 hE.2;rw[IC] at apk;refine apk.mono λe W' ⟨he,hk⟩=>?_;subst he;have bel:Below W.heap.size W W':=⟨hk.os,hk.tape,hk.output,hk.size,λb hb=>hk.block b hb (λe=>e)⟩
 refine⟨_,rfl,_,_,_,[],p0++p1,[],hW',?_,?_,rfl,bel.frame _,λh=>by cases h⟩
 .exact trodAll_cons_mk (shut_bool underlying4 _) trodAll_mk0
 .exact trodAll_mk2 (Below.trod laidOut af (Rt af) h0k bel (λx hx=>bQ x (by simp[hx]))) (Below.trod laidOut af (Rt af) h1k bel (λx hx=>bQ x (by simp[hx])))
def Zj{H:Type}{wP:TypeId×Value->H}{C:Checked}{os:Os}{f:RB}{fn:Func}{s:OpenSpec}{conds:List PathCond}{apart:TG}{laid:List (String×DataW Unit)}(modest:TG)(w0:YC)(args:Zt)(hos:w0.os=os)
  (eF:(w0.forCall (λ_ _=>0) ⟨#[],args,[]⟩).Shaped C.prog) (bL:Input.okWideB C.prog (w0.forCall (λ_ _=>0) ⟨#[],args,[]⟩) f ⟨#[],args,[]⟩=true)
  (aL:s.preRow wP C.prog fn conds apart laid (w0.forCall (λ_ _=>0) ⟨#[],args,[]⟩).memory args):
  ∃(w:YC) (tape:Tape) (i:Input),w.os=os/\(w.forCall tape i).Shaped C.prog/\i.vars=[]/\Input.okWide C.prog (w.forCall tape i) .any w.heap.size f i/\
   s.preRow wP C.prog fn conds apart laid (w.forCall tape i).memory i.args/\({modest:=modest}:Assume).holds C.prog (lone (Frame.enter C.prog f i.args .normal) [] (w.forCall tape i)):=
 ⟨w0,λ_ _=>0,⟨#[],args,[]⟩,hos,eF,(Input.okWide_of_okWideB (base:=0) bL).1,(Input.okWide_of_okWideB bL).2,aL,by
  simp only[Assume.holds];exact⟨by simp,by simp,λ_=>Modest.zero,by simp,by simp⟩⟩
def lifted(os:Os)(started:os.Started)(H:Type)(wP:TypeId×Value->H)(F:Stop.Interp):ReturnsInHanded {} Tryz.checked os 4 .any ((OpenSpec.ofChange Rows.baseDriversSpec).preRow wP prog f4 Rows.baseDriversRow.domain false Rows.baseDriversRow.laid) (((OpenSpec.ofChange Rows.baseDriversSpec).at F).post wP prog f4 false true false false):=by
 refine returnsInHanded_of_row (C:=Tryz.checked) (s:=OpenSpec.ofChange Rows.baseDriversSpec) own started af func4 ?_ ?_
 .have hx:∃ahg,DataW.whole wP prog ((World.laidAll prog os Rows.baseDriversRow.laid).forCall (λ_ _=>0) ⟨#[],#[eS,nS],[]⟩).memory f4.params.toList Rows.baseDriversSpec.vars false #[Value.string ⟨#[]⟩,Value.slice none 0 0].toList 8=some ([.lit (.string []),.nil],[],ahg):=⟨[],by kernel_rfl⟩
  obtain⟨ahg,hx⟩:=hx;exact Zj false (World.laidAll prog os Rows.baseDriversRow.laid) #[eS,nS] (World.laidAll_os _ _ _) (World.shaped_of_ZipB af af) af
   (OpenSpec.preRow_of_cond 8 hx af sy af (laidMet_laidAll _ af af))
 intro W base args ds gs before yZ hW _ _ _ hL eF _;exact contract H wP W base args ds gs before (amL hL eF) yZ hW
def said:Rows.BaseDriversSaid:=
 OpenClaim.holds_of_cond 4 f4 rfl rfl rfl rfl rfl rfl rfl ⟨rfl,rfl,rfl,rfl,rfl⟩ rfl rfl rfl rfl rfl af func4 closed
  (of_decide_eq_true af) (by unfold Func.isWrapper;first|(rw[if_pos bh];kernel_rfl)|(rw[if_neg bh];exact⟨rfl,rfl⟩))
  (λos started H wP _ F=>by rw[OpenClaim.pre_eq_preRow];exact lifted os started H wP F)
def plain(f:RB)(fn:Func)(hf:Tryz.pinned.checked.prog.funcNamed "cosigner/cosignerlaw26.BaseDrivers"=some f)(hfn:Tryz.pinned.checked.prog.funcs[f]?=some fn):true=Tryz.pinned.checked.prog.looks []/\∀(j:Nat) t,fn.params[j]?=some t->Tryz.pinned.checked.prog.wantsStandIn t=false:=by
 obtain rfl:f=4:=j6 ((show prog.funcNamed "cosigner/cosignerlaw26.BaseDrivers"=some 4 by kernel_rfl).symm.trans hf) |>.symm;obtain rfl:fn=f4:=(j6 (func4.symm.trans hfn)).symm;refine⟨by kernel_rfl,λj t ht=>?_⟩;rw[Tryz.params4] at ht;have h3:t=9∨t=48:=by
  rcases j with _|_|j
  .exact .inl (by simpa using ht.symm)
  .exact .inr (by simpa using ht.symm)
  .simp at ht
 rcases h3 with rfl|rfl
 .exact(show prog.wantsStandIn 9=false by kernel_rfl)
 .exact(show prog.wantsStandIn 48=false by kernel_rfl)
theorem card:Rows.BaseDriversCardSaid:=
 Claim7.holds_tied_plain_at .later [] _ _ _ _ said nW af nW baseDrivers_row_tie rfl ⟨rfl,rfl⟩ af rfl plain af
#print axioms card
end Go.Proofs.YtibajhihfaggfaaGreatDoor.Bdr
