/- What ReadAgainP leans on, part 5. -/
import Derived.Test.YtkbbgjloifmmbaaGreatDoorPf4
import Derived.Stop.LaidErr
import Derived.Lib.LaidTab
import Derived.Lib.LaidU8
import Derived.Lay
import Derived.MakeChecks
import Derived.ShapedOpen
import Derived.LaidOnce
import Derived.SevenTiedAt
import Derived.ChangeArms
set_option linter.unusedVariables false
set_option maxRecDepth 100000
set_option maxHeartbeats 32000000
open _root_.Go.Proofs.Tryz
open _root_.Go.OpenSpec renaming ofChange->aBP
namespace Go.Proofs.YtkbbgjloifmmbaaGreatDoor
open Go.RowKit Go.ChangeShapes
variable{k:aL}{a b d:Nat}{l:Tx}
theorem azH{H:Type}{enc:TypeId × Value->H}{a:Assume}{C:Checked}{os:Os}{f:FuncId}{fn:Func}{s:ChangeSpec}{conds:List PathCond}{apart fresh handsOn again:Bool}{X:World->Array Value->Prop}
 (hX: ∀(w w':World) (args:Array Value),w.heap=w'.heap->X w args->X w' args)
 (own:ownKnob C.prog.godebug=none) (started:os.Started) (noInit:C.prog.inits.idxOf? f=none) (hfn:C.prog.funcs[f]? =some fn)
 (witness: ∃(w:World) (tape:Tape) (i:Input),w.os=os/\(w.forCall tape i).Shaped C.prog/\i.vars=[]/\Input.okWide C.prog (w.forCall tape i) .any w.heap.size f i/\
  ((s.pre enc C.prog fn conds apart (w.forCall tape i).memory i.args/\X (w.forCall tape i).memory i.args)/\sizedMet enc C.prog fn (aBP s) apart (w.forCall tape i).memory i.args)/\a.holds C.prog (lone (Frame.enter C.prog f i.args .normal) [] (w.forCall tape i)))
 (contract: ∀(W:World) (base:Nat) (args:Array Value) (ds gs:List (DataW H)) (before:List MemPlace),
  (∀(j:Nat) t v,fn.params[j]? =some t->args[j]? =some v->Value.okWide C.prog W .any base t v)->
  DataW.Whole enc C.prog fn.params.toList s.vars apart W args.toList ds gs before->
  (DataW.weightsEach C.prog (fn.params.toList++s.plain.varTypes C.prog) (ds++gs)).all (· <=reachBytes)=true->X W args->W.ShapedOpen C.prog->
  Calls C.prog f args W fun e W'=> ∃v,e= .returned v/\s.post enc C.prog fn apart fresh handsOn again W args v W'):
 ReturnsInHanded a C os f .any (fun w args=>(s.pre enc C.prog fn conds apart w args/\X w args)/\sizedMet enc C.prog fn (aBP s) apart w args) (s.post enc C.prog fn apart fresh handsOn again):=by
 refine returnsInHanded_of_calls own started noInit witness ?_;intro w tape i _ hsh _ hok hpre _;obtain⟨_,_,_,fn',ao1,_,_,_,_,hval⟩:=hok;obtain rfl:fn'=fn:=fU (ao1.symm.trans hfn);obtain⟨⟨⟨ds,gs,before,hw,hc⟩,hx⟩,hz⟩:=hpre;have hw':=DataW.Whole.of_heap (w':=w.forCall tape i) (by rfl) hw;refine(contract (w.forCall tape i) w.heap.size i.args ds gs before hval hw' (hz.weights hw) (hX _ _ _ (by rfl) hx) hsh).mono fun e W' ⟨v,he,hp⟩=>?_
 subst he;exact ChangeSpec.post_blind hp
def aiT:DataW Unit:=.agg (yT.map fun s=>.lit (.string s))
theorem aoA{W:World}{x0 x1 x6:String × DataW Unit}{r:List (String × DataW Unit)}{npow aha ahc ahb nm:String}{t1 t2:List UInt8}
 (h1:prog.globalNamed npow=some 4) (nc:npow=Qb) (h2:aha= "strconv.ErrRange") (h3:ahc= "strconv.ErrSyntax") (hnm:nm= "*" ++ "errors.errorString") (h4:prog.globalNamed ahb=some 0)
 (hL:laidMet prog (x0::x1::(npow,Lib.tabData .u64 Lib.pow10Tab)::x6::(aha,.iface nm (.ptr (.agg [.lit (.string t1)])))::(ahc,.iface nm (.ptr (.agg [.lit (.string t2)])))::(ahb,aiT)::r) W)
 (hS:W.ShapedOpen prog):Gl W:=by
 subst h2 h3 nc;have hrow: ∀u,prog.typeName? 3 u=some nm→u=296:=fun u hu=>typeName_ptr_named (nm:= "errors.errorString") bM bM ay u (by rw[hu,hnm])
 obtain⟨a0,s0,hv0, -⟩:=laid_sentinel hL.tail.tail.tail.tail (g:=3) (ti:=98) bM bM underlying98 hrow underlying296 underlying298 rfl rfl underlying9 bM bM;obtain⟨a1,s1,hv1, -⟩:=laid_sentinel hL.tail.tail.tail.tail.tail (g:=2) (ti:=98) bM bM underlying98 hrow underlying296 underlying298 rfl rfl underlying9 bM bM;refine⟨?_,Tryz.KI.s1_3 W hS,⟨_,_,hv1⟩,⟨_,_,hv0⟩,fun k hk=>?_⟩
 ·exact Lib.tabIs_of_head h1 (t:=278) (e:=244) (n:=20) bM underlying278 underlying244 bM bM hL.tail.tail
 obtain⟨g,t,cs,fuel,p,hg,hty,hvar,hd⟩:=Lib.laidMet.reads hL.tail.tail.tail.tail.tail.tail (List.Mem.head _)
 obtain rfl:=fU (h4.symm.trans hg);obtain rfl:208=t:=fU ((show(prog.globals[0]?).map (·.type)=some 208 by kernel_rfl).symm.trans hty);unfold aiT at hd;obtain⟨f',d,q,FJ,he⟩:=Lib.array_elem (n:=15) underlying208 hd k hk;have h1:prog.cellsOf 9=1:=by kernel_rfl
 rw[h1,ER]at he
 have hlen:k<cs.toList.length:=by
  rcases iA k cs.toList.length with h|h
  ·exact h
  rw[iN h]at he
  cases f' with
  |zero=>simp[DataW.trod]at he
  |succ f'=>simp[DataW.trod,underlying9]at he
 rw[jB hlen,uA,x9]at he;obtain⟨s,hs,h3, -⟩:=DataW.trod_string underlying9 he;have:=World.var?_cell hg hvar k;rw[this,<-Array.getElem?_toList,aV hlen];simp only[Ac,and_true]at hs;simp only[Prod.mk.injEq]at h3;rw[hs];rw[h3.1,jf]at FJ
 have hn:yT[k]? =some s.data.toList:=by
  cases h:yT[k]? with
  |none=>rw[h]at FJ;cases FJ
  |some y=>rw[h]at FJ;simp at FJ;rw[FJ]
 have:cg k=s.data.toList:=by unfold cg;rw[pY,hn];rfl
 rw[this];simp[tx]
theorem LF(O:Tx)(h:O.length<=5): ∀t,O++32::t≠[102,101,110,99,101,46,116,115,111]:=by
 intro t e;have h1:(O++32::t)[O.length]? =some 32:=aq;rw[e]at h1;have h2: ∀k,k<=5->([102,101,110,99,101,46,116,115,111]:Tx)[k]? ≠some 32:=ay;exact h2 _ h h1
theorem agn(n:Nat):([48,40]++cZ n++[41]:Tx).getLast?=some 41:=zX
theorem awG{n:Nat}(h:n<32):(44:UInt8)∉([48,40]++cZ n++[41]:Tx):=by
 have:=(tK h).comma;simp only[fc,tf];exact⟨⟨ ay,this⟩,ay⟩
theorem ahR(O:Tx)(d a:Nat)(hd:d<32)(ha:a<32)(hO:O≠[]/\ ∀c∈O,aH c=false)(hl:O.length<=5):
 eN (O++32::(cZ d++44::([48,40]++cZ a++[41])))=fq O [cZ d,[48,40]++cZ a++[41]]:=by
 have h1:=pO hd;have h2:=pO ha
 have FT:(cZ d++44::([48,40]++cZ a++[41])).getLast?=some 41:=by
  rw[Ew,Ez,agn];rfl
 rw[ahS O _ hO aq (by intro c hc;rw[FT]at hc;cases hc;decide) aC (LF O hl _),axA (tK hd) (awG ha)];rw[Lu (l:=[48,40]++cZ a++[41]) (by intro c hc;simp at hc;subst hc;decide) (by intro c hc;rw[agn]at hc;cases hc;decide)]
theorem GQ(n:Nat):rT (n:Int)=cZ n:=by unfold rT;simp
theorem asY(hd:d<32)(ha:a<32):eN (fH ⟨6,d,a,0,0,[],[],0⟩)=some ⟨6,d,a,0,0,[],[],0⟩:=by
 have e:fH ⟨6,d,a,0,0,[],[],0⟩=[108,119]++32::(cZ d++44::([48,40]++cZ a++[41])):=by
  unfold fH;simp only[GQ];rw[ak trivial];simp
 rw[e,ahR [108,119] d a hd ha ay ay,Ql,sI hd,aam ha]
theorem as1(hd:b<32)(ha:a<32):eN (fH ⟨7,0,a,b,0,[],[],0⟩)=some ⟨7,0,a,b,0,[],[],0⟩:=by
 have e:fH ⟨7,0,a,b,0,[],[],0⟩=[115,119]++32::(cZ b++44::([48,40]++cZ a++[41])):=by
  unfold fH;simp only[GQ];rw[ai ay,ak trivial];simp
 rw[e,ahR [115,119] b a hd ha ay ay,Qm,sI hd,aam ha]
theorem asZ{n:Int}(hd:d<32)(ha:a<32)(h1: -2048<=n)(h2:n<=2047):eN (fH ⟨8,d,a,0,n,[],[],0⟩)=some ⟨8,d,a,0,n,[],[],0⟩:=by
 have e:fH ⟨8,d,a,0,n,[],[],0⟩=[111,114,105]++32::(cZ d++44::(cZ a++44::jI n)):=by
  unfold fH;simp only[GQ];rw[ai ay,ai ay,ak trivial];simp
 have l1:=pO hd;have l2:=pO ha;have l3:=UA n;rw[e,P5 [111,114,105] _ _ _ ay (tK hd) (tK ha) (al4 h1 h2) aC (LF _ ay),xw _ _ _ ay ay ay,sI hd,sI ha];simp only;rw[ai ay,ak trivial,XO h1 h2]
theorem as2(hd:d<32)(ha:a<32)(hb:b<32):eN (fH ⟨9,d,a,b,0,[],[],0⟩)=some ⟨9,d,a,b,0,[],[],0⟩:=by
 have e:fH ⟨9,d,a,b,0,[],[],0⟩=[120,111,114]++32::(cZ d++44::(cZ a++44::cZ b)):=by
  unfold fH;simp only[GQ];rw[ai ay,ai ay,ai ay,ak trivial];simp
 have l1:=pO hd;have l2:=pO ha;have l3:=pO hb;rw[e,P5 [120,111,114] _ _ _ ay (tK hd) (tK ha) (tK hb) aC (LF _ ay),xw _ _ _ ay ay ay,sI hd,sI ha];simp only;rw[ai ay,ai ay,sI hb];simp only;rw[ak trivial]
theorem asT(hd:d<32)(ha:a<32)(hb:b<32):eN (fH ⟨10,d,a,b,0,[],[],0⟩)=some ⟨10,d,a,b,0,[],[],0⟩:=by
 have e:fH ⟨10,d,a,b,0,[],[],0⟩=[97,100,100]++32::(cZ d++44::(cZ a++44::cZ b)):=by
  unfold fH;simp only[GQ];rw[ai ay,ai ay,ai ay,ai ay,ak trivial];simp
 have l1:=pO hd;have l2:=pO ha;have l3:=pO hb;rw[e,P5 [97,100,100] _ _ _ ay (tK hd) (tK ha) (tK hb) aC (LF _ ay),xw _ _ _ ay ay ay,sI hd,sI ha];simp only;rw[ai ay,ai ay,sI hb];simp only;rw[ai ay,ak trivial]
theorem asU(ha:a<32)(hb:b<32)(hl:aU l=true):eN (fH ⟨11,0,a,b,0,[],l,0⟩)=some ⟨11,0,a,b,0,[],l,0⟩:=by
 have e:fH ⟨11,0,a,b,0,[],l,0⟩=[98,110,101]++32::(cZ a++44::(cZ b++44::l)):=by
  unfold fH;simp only[GQ];rw[ai ay,ai ay,ai ay,ai ay,ai ay,ak trivial];simp
 have l1:=pO ha;have l2:=pO hb;obtain⟨hcl,l3⟩:=pM hl;rw[e,P5 [98,110,101] _ _ _ ay (tK ha) (tK hb) hcl aC (LF _ ay),xw _ _ _ ay ay ay,sI ha,sI hb];simp only;rw[ak trivial,ak hl]
theorem asX(hl:aU l=true):eN (fH ⟨12,0,0,0,0,[],l,0⟩)=some ⟨12,0,0,0,0,[],l,0⟩:=by
 obtain⟨hcl,hlen⟩:=pM hl
 have e:fH ⟨12,0,0,0,0,[],l,0⟩=l++[58]:=by
  unfold fH;simp
 have ht:aG (l++[58])=l++[58]:=by
  refine Lu (fun c hc=>?_) (fun c hc=>by simp at hc;subst hc;decide)
  obtain⟨x,r,rfl⟩: ∃x r,l=x::r:=by cases l with
   |nil=>exact absurd rfl hcl.1
   |cons x r=>exact⟨x,r,rfl⟩
  exact hcl.head c (aS hc)
 rw[e];unfold eN;rw[ai aC];simp only[ht]
 rw[ai (by
  intro h;have:(l++[58]).getLast?=some 58:=aq;rw[h]at this;cases this),ak aq,BR,hcl.trim,ak hl]
theorem asW: ∀k:Fin 10,eN (fH ⟨13,0,0,0,0,[],[],(k.val:Int)+2⟩)=some ⟨13,0,0,0,0,[],[],(k.val:Int)+2⟩:=dD
theorem as0(i:aL)(h:cD i=true):eN (fH i)=some i:=by
 obtain⟨ho,hw,hd,ha,hb⟩:=Jx h;obtain⟨op,d,a,b,ax,aj,av,az⟩:=i;unfold rH at hw;unfold gm at ho;simp only at ho hw hd ha hb;obtain⟨nd,hnd,rfl⟩:=Le hd;obtain⟨na,hna,rfl⟩:=Le ha;obtain⟨nb,hnb,rfl⟩:=Le hb
 by_cases h6:op=6
 ·subst h6;simp at hw
  obtain⟨hz,rfl,rfl,rfl,rfl⟩:=hw;rw[show(nb:Int)=0 by omega];exact asY hnd hna
 by_cases h7:op=7
 ·subst h7;simp at hw
  obtain⟨hz,rfl,rfl,rfl,rfl⟩:=hw;rw[show(nd:Int)=0 by omega];exact as1 hnb hna
 by_cases h8:op=8
 ·subst h8;simp at hw ho
  obtain⟨hz,rfl,rfl,rfl⟩:=hw;rw[show(nb:Int)=0 by omega];exact asZ hnd hna ho.1 ho.2
 by_cases h9:op=9
 ·subst h9;simp at hw
  obtain⟨rfl,rfl,rfl,rfl⟩:=hw;exact as2 hnd hna hnb
 by_cases h10:op=10
 ·subst h10;simp at hw
  obtain⟨rfl,rfl,rfl,rfl⟩:=hw;exact asT hnd hna hnb
 by_cases h11:op=11
 ·subst h11;simp at hw ho
  obtain⟨hz,rfl,rfl,rfl⟩:=hw;rw[show(nd:Int)=0 by omega];exact asU hna hnb ho
 by_cases h12:op=12
 ·subst h12;simp at hw ho
  obtain⟨hz,AQ,Wv,rfl,rfl,rfl⟩:=hw;rw[show(nd:Int)=0 by omega,show(na:Int)=0 by omega,show(nb:Int)=0 by omega];exact asX ho
 by_cases AB:op=13
 ·subst AB;simp at hw ho
  obtain⟨hz,AQ,Wv,rfl,rfl,rfl⟩:=hw;rw[show(nd:Int)=0 by omega,show(na:Int)=0 by omega,show(nb:Int)=0 by omega];have:=asW ⟨(az-2).toNat,ah⟩;simp only at this
  rwa[show(((az-2).toNat:Nat):Int)+2=az by omega]at this
 exfalso;rw[ai h8,ai ah,ai AB]at ho;simp at ho;omega
theorem aeU{x:Tx}{k:Int}(h:nP x=some k):0<=k/\k<=2:=by
 obtain⟨n,hn,rfl, -⟩:=CD h;omega
theorem avY{op:Tx}{l:List Tx}(h:fq op l=some k):cD k=true:=by
 by_cases h1:op=[108,119]
 ·subst h1
  by_cases hl:l.length=2
  ·obtain⟨x,y,rfl⟩:=xe hl
   rw[Ql]at h;cases hx:bR x with
   |none=>rw[hx]at h;simp at h
   | some d=>cases hy:fK y with
     |none=>rw[hx,hy]at h;simp at h
     |some a=>rw[hx,hy]at h;simp at h;subst h;exact abm (mO d hx) (Sw hy)
  rw[Yn hl]at h;cases h
 by_cases h2:op=[115,119]
 ·subst h2
  by_cases hl:l.length=2
  ·obtain⟨x,y,rfl⟩:=xe hl
   rw[Qm]at h;cases hx:bR x with
   |none=>rw[hx]at h;simp at h
   | some d=>cases hy:fK y with
     |none=>rw[hx,hy]at h;simp at h
     |some a=>rw[hx,hy]at h;simp at h;subst h;exact abn (mO d hx) (Sw hy)
  rw[Yo hl]at h;cases h
 by_cases h3:op=[102,101,110,99,101]
 ·subst h3
  by_cases hl:l.length=2
  ·obtain⟨x,y,rfl⟩:=xe hl
   rw[Yl]at h;cases hx:nP x with
   |none=>rw[hx]at h;simp at h
   | some d=>cases hy:nP y with
     |none=>rw[hx,hy]at h;simp at h
     | some a=>
       rw[hx,hy]at h;simp at h;subst h;have:=aeU hx;have:=aeU hy;rw[Um];simp;omega
  rw[Ym hl]at h;cases h
 by_cases hl:l.length=3
 ·obtain⟨x,y,z,rfl⟩:=Gn hl
  rw[xw _ _ _ h1 h2 h3]at h;cases hx:bR x with
  |none=>rw[hx]at h;simp at h
  | some a=>cases hy:bR y with
    |none=>rw[hx,hy]at h;simp at h
    | some b=>
      rw[hx,hy]at h;simp only at h;have la:=mO a hx;have lb:=mO b hy
      split at h
      ·split at h
       ·rename_i hn;cases h;rw[abl la lb];exact hn
       cases h
      split at h
      ·cases hn:nT z with
       |none=>rw[hn]at h;simp at h
       | some n=>
         rw[hn]at h;simp at h;subst h;obtain⟨-, b1,b2⟩:=GA hn;rw[Un la lb];simp;omega
      cases hz:bR z with
      |none=>rw[hz]at h;simp at h
      | some c=>
        rw[hz]at h;simp only at h;have lc:=mO c hz
        split at h
        ·cases h;exact Ul (.inl rfl) la lb lc
        split at h
        ·cases h;exact Ul (.inr rfl) la lb lc
        cases h
 rw[GR h1 h2 h3 hl]at h;cases h
theorem asV{s:Tx}(h:eN s=some k):cD k=true:=by
 unfold eN at h
 split at h
 ·cases h
 simp only at h
 split at h
 ·cases h;decide
 split at h
 ·split at h
  ·rename_i hn;cases h;rw[Jy];exact hn
  cases h
 exact avY h
section
variable (op d a b ax:Int) (aj av:Tx) (az:Int) (w:World)
theorem avi(hl:aj.length<=9223372036854775807):Calls prog 302 #[vI ⟨1,d,a,b,ax,aj,av,az⟩] w (bg w (.int .i64 (fI ⟨1,d,a,b,ax,aj,av,az⟩))):=by
 have hc:fh ⟨1,d,a,b,ax,aj,av,az⟩=(eM ⟨1,d,a,b,ax,aj,av,az⟩&&decide ((⟨1,0,0,0,ax,aj,[],0⟩:aL)=⟨1,d,a,b,ax,aj,av,az⟩)):=by
  exact adu
 have ok:eM ⟨1,d,a,b,ax,aj,av,az⟩=(aU aj&&bJ ax):=by cases k0:aU aj<;>cases k1:bJ ax<;>simp[eM,k0,k1]
 have he:fI ⟨1,d,a,b,ax,aj,av,az⟩=if(((aU aj&&bJ ax))&&decide ((⟨1,0,0,0,ax,aj,[],0⟩:aL)=⟨1,d,a,b,ax,aj,av,az⟩))=true then 0 else 91:=by unfold fI;rw[hc,ok]
 clear hc ok;obtain⟨n,hn⟩: ∃n,n= !decide ((⟨1,0,0,0,ax,aj,[],0⟩:aL)=⟨1,d,a,b,ax,aj,av,az⟩):=⟨_,rfl⟩;have oH: ∀w,(binOp .neq 50 (.agg #[.int .i64 1,.int .i64 0,.int .i64 0,.int .i64 0,.int .i64 ax,.string (tx aj),.string ⟨#[]⟩,.int .i64 0]) (.agg #[.int .i64 1,.int .i64 d,.int .i64 a,.int .i64 b,.int .i64 ax,.string (tx aj),.string (tx av),.int .i64 az])).run prog w= .ok (.bool n) w:=fun w=>by rw[hn];exact jO ⟨1,0,0,0,ax,aj,[],0⟩ ⟨1,d,a,b,ax,aj,av,az⟩ w
 cases h0:aU aj<;>cases h1:bJ ax<;>cases hq:decide ((⟨1,0,0,0,ax,aj,[],0⟩:aL)=⟨1,d,a,b,ax,aj,av,az⟩)
 all_goals
  rw[hq]at hn;simp only[mV,nK]at hn;subst hn;rw[hq,h0,h1]at he;have HE:=af he;replace h0:=af h0;replace h1:=af h1;clear he hq;go_in
  go_wp2_with (first|(go_at_call 252;refine aK (GM aj hl _) ?_;rw[h0.oo])|(go_at_call 309;refine aK (KX ax _) ?_;rw[h1.oo]))
  exact jl
theorem avj(hl:aj.length<=9223372036854775807):Calls prog 302 #[vI ⟨2,d,a,b,ax,aj,av,az⟩] w (bg w (.int .i64 (fI ⟨2,d,a,b,ax,aj,av,az⟩))):=by
 have hc:fh ⟨2,d,a,b,ax,aj,av,az⟩=(eM ⟨2,d,a,b,ax,aj,av,az⟩&&decide ((⟨2,0,a,0,0,aj,[],0⟩:aL)=⟨2,d,a,b,ax,aj,av,az⟩)):=by
  exact adv
 have ok:eM ⟨2,d,a,b,ax,aj,av,az⟩=(aU aj&&gu a):=by cases k0:aU aj<;>cases k1:gu a<;>simp[eM,k0,k1]
 have he:fI ⟨2,d,a,b,ax,aj,av,az⟩=if(((aU aj&&gu a))&&decide ((⟨2,0,a,0,0,aj,[],0⟩:aL)=⟨2,d,a,b,ax,aj,av,az⟩))=true then 0 else 91:=by unfold fI;rw[hc,ok]
 clear hc ok;obtain⟨n,hn⟩: ∃n,n= !decide ((⟨2,0,a,0,0,aj,[],0⟩:aL)=⟨2,d,a,b,ax,aj,av,az⟩):=⟨_,rfl⟩;have oH: ∀w,(binOp .neq 50 (.agg #[.int .i64 2,.int .i64 0,.int .i64 a,.int .i64 0,.int .i64 0,.string (tx aj),.string ⟨#[]⟩,.int .i64 0]) (.agg #[.int .i64 2,.int .i64 d,.int .i64 a,.int .i64 b,.int .i64 ax,.string (tx aj),.string (tx av),.int .i64 az])).run prog w= .ok (.bool n) w:=fun w=>by rw[hn];exact jO ⟨2,0,a,0,0,aj,[],0⟩ ⟨2,d,a,b,ax,aj,av,az⟩ w
 cases h0:aU aj<;>cases h1:gu a<;>cases hq:decide ((⟨2,0,a,0,0,aj,[],0⟩:aL)=⟨2,d,a,b,ax,aj,av,az⟩)
 all_goals
  rw[hq]at hn;simp only[mV,nK]at hn;subst hn;rw[hq,h0,h1]at he;have HE:=af he;replace h0:=af h0;replace h1:=af h1;clear he hq;go_in
  go_wp2_with (first|(go_at_call 252;refine aK (GM aj hl _) ?_;rw[h0.oo])|(go_at_call 333;refine aK (Ye a _) ?_;rw[h1.oo]))
  exact jl
theorem avk(hl:aj.length<=9223372036854775807):Calls prog 302 #[vI ⟨3,d,a,b,ax,aj,av,az⟩] w (bg w (.int .i64 (fI ⟨3,d,a,b,ax,aj,av,az⟩))):=by
 have hc:fh ⟨3,d,a,b,ax,aj,av,az⟩=(eM ⟨3,d,a,b,ax,aj,av,az⟩&&decide ((⟨3,d,0,0,0,aj,[],0⟩:aL)=⟨3,d,a,b,ax,aj,av,az⟩)):=by
  exact adw
 have ok:eM ⟨3,d,a,b,ax,aj,av,az⟩=(gu d&&aU aj):=by cases k0:gu d<;>cases k1:aU aj<;>simp[eM,k0,k1]
 have he:fI ⟨3,d,a,b,ax,aj,av,az⟩=if(((gu d&&aU aj))&&decide ((⟨3,d,0,0,0,aj,[],0⟩:aL)=⟨3,d,a,b,ax,aj,av,az⟩))=true then 0 else 91:=by unfold fI;rw[hc,ok]
 clear hc ok;obtain⟨n,hn⟩: ∃n,n= !decide ((⟨3,d,0,0,0,aj,[],0⟩:aL)=⟨3,d,a,b,ax,aj,av,az⟩):=⟨_,rfl⟩;have oH: ∀w,(binOp .neq 50 (.agg #[.int .i64 3,.int .i64 d,.int .i64 0,.int .i64 0,.int .i64 0,.string (tx aj),.string ⟨#[]⟩,.int .i64 0]) (.agg #[.int .i64 3,.int .i64 d,.int .i64 a,.int .i64 b,.int .i64 ax,.string (tx aj),.string (tx av),.int .i64 az])).run prog w= .ok (.bool n) w:=fun w=>by rw[hn];exact jO ⟨3,d,0,0,0,aj,[],0⟩ ⟨3,d,a,b,ax,aj,av,az⟩ w
 cases h0:gu d<;>cases h1:aU aj<;>cases hq:decide ((⟨3,d,0,0,0,aj,[],0⟩:aL)=⟨3,d,a,b,ax,aj,av,az⟩)
 all_goals
  rw[hq]at hn;simp only[mV,nK]at hn;subst hn;rw[hq,h0,h1]at he;have HE:=af he;replace h0:=af h0;replace h1:=af h1;clear he hq;go_in
  go_wp2_with (first|(go_at_call 333;refine aK (Ye d _) ?_;rw[h0.oo])|(go_at_call 252;refine aK (GM aj hl _) ?_;rw[h1.oo]))
  exact jl
theorem avl(hl:aj.length<=9223372036854775807):Calls prog 302 #[vI ⟨4,d,a,b,ax,aj,av,az⟩] w (bg w (.int .i64 (fI ⟨4,d,a,b,ax,aj,av,az⟩))):=by
 have hc:fh ⟨4,d,a,b,ax,aj,av,az⟩=(eM ⟨4,d,a,b,ax,aj,av,az⟩&&decide ((⟨4,d,0,0,ax,[],[],0⟩:aL)=⟨4,d,a,b,ax,aj,av,az⟩)):=by
  exact adx
 have ok:eM ⟨4,d,a,b,ax,aj,av,az⟩=(gu d&&bJ ax):=by cases k0:gu d<;>cases k1:bJ ax<;>simp[eM,k0,k1]
 have he:fI ⟨4,d,a,b,ax,aj,av,az⟩=if(((gu d&&bJ ax))&&decide ((⟨4,d,0,0,ax,[],[],0⟩:aL)=⟨4,d,a,b,ax,aj,av,az⟩))=true then 0 else 91:=by unfold fI;rw[hc,ok]
 clear hc ok;obtain⟨n,hn⟩: ∃n,n= !decide ((⟨4,d,0,0,ax,[],[],0⟩:aL)=⟨4,d,a,b,ax,aj,av,az⟩):=⟨_,rfl⟩;have oH: ∀w,(binOp .neq 50 (.agg #[.int .i64 4,.int .i64 d,.int .i64 0,.int .i64 0,.int .i64 ax,.string ⟨#[]⟩,.string ⟨#[]⟩,.int .i64 0]) (.agg #[.int .i64 4,.int .i64 d,.int .i64 a,.int .i64 b,.int .i64 ax,.string (tx aj),.string (tx av),.int .i64 az])).run prog w= .ok (.bool n) w:=fun w=>by rw[hn];exact jO ⟨4,d,0,0,ax,[],[],0⟩ ⟨4,d,a,b,ax,aj,av,az⟩ w
 cases h0:gu d<;>cases h1:bJ ax<;>cases hq:decide ((⟨4,d,0,0,ax,[],[],0⟩:aL)=⟨4,d,a,b,ax,aj,av,az⟩)
 all_goals
  rw[hq]at hn;simp only[mV,nK]at hn;subst hn;rw[hq,h0,h1]at he;have HE:=af he;replace h0:=af h0;replace h1:=af h1;clear he hq;go_in
  go_wp2_with (first|(go_at_call 333;refine aK (Ye d _) ?_;rw[h0.oo])|(go_at_call 309;refine aK (KX ax _) ?_;rw[h1.oo]))
  exact jl
theorem avm(hl:aj.length<=9223372036854775807):Calls prog 302 #[vI ⟨5,d,a,b,ax,aj,av,az⟩] w (bg w (.int .i64 (fI ⟨5,d,a,b,ax,aj,av,az⟩))):=by
 have hc:fh ⟨5,d,a,b,ax,aj,av,az⟩=(eM ⟨5,d,a,b,ax,aj,av,az⟩&&decide ((⟨5,0,0,0,0,[],[],0⟩:aL)=⟨5,d,a,b,ax,aj,av,az⟩)):=by
  exact ady
 have ok:eM ⟨5,d,a,b,ax,aj,av,az⟩=true:=by simp[eM]
 have he:fI ⟨5,d,a,b,ax,aj,av,az⟩=if((true)&&decide ((⟨5,0,0,0,0,[],[],0⟩:aL)=⟨5,d,a,b,ax,aj,av,az⟩))=true then 0 else 91:=by unfold fI;rw[hc,ok]
 clear hc ok;obtain⟨n,hn⟩: ∃n,n= !decide ((⟨5,0,0,0,0,[],[],0⟩:aL)=⟨5,d,a,b,ax,aj,av,az⟩):=⟨_,rfl⟩;have oH: ∀w,(binOp .neq 50 (.agg #[.int .i64 5,.int .i64 0,.int .i64 0,.int .i64 0,.int .i64 0,.string ⟨#[]⟩,.string ⟨#[]⟩,.int .i64 0]) (.agg #[.int .i64 5,.int .i64 d,.int .i64 a,.int .i64 b,.int .i64 ax,.string (tx aj),.string (tx av),.int .i64 az])).run prog w= .ok (.bool n) w:=fun w=>by rw[hn];exact jO ⟨5,0,0,0,0,[],[],0⟩ ⟨5,d,a,b,ax,aj,av,az⟩ w
 cases hq:decide ((⟨5,0,0,0,0,[],[],0⟩:aL)=⟨5,d,a,b,ax,aj,av,az⟩)
 all_goals
  rw[hq]at hn;simp only[mV,nK]at hn;subst hn;rw[hq]at he;have HE:=af he;clear he hq;exact Od
theorem avn(ho:op<1\/5<op):Calls prog 302 #[vI ⟨op,d,a,b,ax,aj,av,az⟩] w (bg w (.int .i64 (fI ⟨op,d,a,b,ax,aj,av,az⟩))):=by
 have hc:fh ⟨op,d,a,b,ax,aj,av,az⟩=false:=by
  exact adz
 have HE:=af (Vg hc);clear hc;have z1:(op==1)=false:=aC;have z2:(op==2)=false:=aC;have z3:(op==3)=false:=aC;have z4:(op==4)=false:=aC;have z5:(op==5)=false:=aC;clear ho;exact Od
end
theorem avh(i:aL)(hl:i.aj.length<=9223372036854775807)(w:World):Calls prog 302 #[vI i] w (bg w (.int .i64 (fI i))):=by
 obtain⟨op,d,a,b,ax,aj,av,az⟩:=i
 by_cases h1:op=1
 ·subst h1;exact avi _ _ _ _ _ _ _ _ hl
 by_cases h2:op=2
 ·subst h2;exact avj _ _ _ _ _ _ _ _ hl
 by_cases h3:op=3
 ·subst h3;exact avk _ _ _ _ _ _ _ _ hl
 by_cases h4:op=4
 ·subst h4;exact avl _ _ _ _ _ _ _ _ hl
 by_cases h5:op=5
 ·subst h5;exact avm _ _ _ _ _ _ _ _ hl
 exact avn _ _ _ _ _ _ _ _ _ ah
end Go.Proofs.YtkbbgjloifmmbaaGreatDoor
