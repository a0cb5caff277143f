/- What ReadBackP leans on, part 8. -/
import Derived.Deep.Slices
import Derived.Deep.Fields
import Derived.ChangeSame
import Derived.Lib.SmallJoins
import Derived.Test.YtkbbgjloifmmbaaGreatDoorRb7
set_option linter.unusedVariables false
set_option maxRecDepth 100000
namespace Go.Proofs.YtkbbgjloifmmbaaGreatDoor
open _root_.Go.Proofs.Tryz
open _root_.List renaming getElem?_eq_some_iff->ano,getElem?_eq_none->an8,length_append->aoE,getElem?_eq_getElem->amK,length_cons->ans,length_nil->anX,take_of_length_le->apq,mem_iff_getElem?->aoh,getElem?_map->ao7,getElem?_take_of_lt->aob,ext_getElem?->aps,mem_of_getElem?->aou,getElem?_drop->aoi,getD_eq_getElem?_getD->apo,length_map->ao3,replicate->ao8,length_take->aoc,replicate_succ->ap2,foldl_append->aqF,intercalate->aqp,getElem?_replicate->aqH,map_append->aof,getElem?_set_self->aqo,set_append_right->ap3,getElem?_mapIdx->ao9,mem_of_mem_take->aqJ,mem_cons->amY,flatMap_append->aqi,set_cons_zero->ap5,take_length->anG,range->am9,length_set->apR
open _root_.Go.DataW renaming trod_struct->aqE,trod->aqG,weights_mem_each->aqI
open _root_.Bool renaming and_eq_true->am6
open _root_.Nat renaming le_refl->amS,mul_le_mul_right->aqr,sub_self->ap6,lt_succ_iff_lt_or_eq->an5
open _root_.Option.some renaming injEq->anK
open Go.ChangeShapes Go.WideShapes Go.Deep Go.RowKit Go.Joins
section
variable {H:Type} {enc:TypeId × Value->H} {P:Program} {w:World} {base:Nat} {spare:Nat->Bool} {held:Bool}
theorem eU{n:Nat}{fs:Array Field}{cs:List Value}{xs:List (DataW H × List MemPlace)}(hxl:xs.length=fs.size)
 (hg: ∀(i:Nat) (f:Field),fs[i]? =some f->aqG enc P w base spare held n f.type ((cs.drop f.offset).take (P.cellsOf f.type))=xs[i]?)
 (i:Nat) (f:Field) (hf:fs[i]? =some f) (ft:TypeId) (o k:Nat) (h1:f.type=ft) (h2:f.offset=o) (h3:P.cellsOf ft=k):
 ∃y,xs[i]? =some y/\aqG enc P w base spare held n ft ((cs.drop o).take k)=some y:=by
 have hlt:=(Array.getElem?_eq_some_iff.1 hf).1;have hy:xs[i]? =some (xs[i]'(by omega)):=amK (by omega);have:=hg i f hf;rw[h1,h2,h3,hy]at this;exact⟨_,hy,this⟩
theorem Fh{α:Type}{nM:α->List Value}{m:Nat}{Q:Nat->α->Prop}(hm: ∀x,(nM x).length=m)(hpos:0<m){a:Addr}{len:Nat}(z:α)(hlen:len<=1000000000000000000)
 (key: ∀i,i<len-> ∃e:α,Q i e/\ ∀j,j<m->w.cell? (a.add (i*m+j))=(nM e)[j]?): ∃l:List α,l.length=len/\bf nM w (some a) l/\ ∀i e,l[i]? =some e->Q i e:=by
 obtain⟨f,hf⟩: ∃f:Nat->α,∀i,i<len->Q i (f i)/\ ∀j,j<m->w.cell? (a.add (i*m+j))=(nM (f i))[j]? :=
  ⟨fun i=>if h:i<len then Classical.choose (key i h)else z,fun i hil=>by simp only[hil,dite_true];exact Classical.choose_spec (key i hil)⟩
 refine⟨(am9 len).map f,by simp,⟨⟨fun hne=>?_,fun i hil=>?_⟩,by simpa using hlen⟩,fun i e he=>?_⟩
 ·have h0:0<len:=by
   rcases Nat.eq_zero_or_pos len with h0|h0
   ·subst h0;exact absurd rfl hne
   ·exact h0
  have h1:=(hf 0 h0).2 0 hpos;obtain⟨b,off,spot⟩:=a;have hc:(nM (f 0))[0]? =some ((nM (f 0))[0]'(by rw[hm];exact hpos)):=amK (by rw[hm];exact hpos);rw[hc]at h1;have hspot:spot=none:=by simpa[Addr.add]using World.cell?_spot h1
  subst hspot;rfl
 ·rw[fL hm]at hil
  simp only[ao3,List.length_range]at hil;have hi1:i/m<len:=Nat.div_lt_of_lt_mul (by rw[Nat.mul_comm];exact hil);have h0:0<len:=Nat.lt_of_le_of_lt (Nat.zero_le _) hi1;have hx0:=(hf 0 h0).2 0 hpos;obtain⟨b,off,spot⟩:=a;have hc:(nM (f 0))[0]? =some ((nM (f 0))[0]'(by rw[hm];exact hpos)):=amK (by rw[hm];exact hpos);rw[hc]at hx0;have hspot:spot=none:=by simpa[Addr.add]using World.cell?_spot hx0
  subst hspot;have h1:=(hf (i/m) hi1).2 (i%m) (Nat.mod_lt _ hpos);have e1:i/m*m+i%m=i:=Nat.div_add_mod' i m;have h2:=Aq hm ((am9 len).map f) (i/m) (i%m) (f (i/m)) (by simp[hi1]) (Nat.mod_lt _ hpos);rw[e1]at h1 h2;rw[Addr.add_lit]at h1;simp only[fk,gb];rw[h1,h2]
 ·rw[ao7]at he
  by_cases hi:i<len
  ·rw[List.getElem?_range hi]at he
   simp only[Option.map_some,anK]at he;subst he;exact(hf i hi).1
  ·rw[an8 (by simpa using hi)]at he;cases he
theorem Fm{t e:TypeId}{fuel m:Nat}{cs:List Value}{x:DataW H × List MemPlace}(ht:P.underlying t=some (.slice e))(hC:P.cellsOf e=m)(h:aqG enc P w base spare held fuel t cs=some x):
 (cs=[.slice none 0 0]/\x.1= .nil)\/ ∃(a:Addr) (len cap:Nat) (E S:List (DataW H)) (n:Nat),fuel=n+1/\cs=[.slice (some a) len cap]/\len<=cap/\cap<=maxLen/\x.1= .slice E S/\E.length=len/\
  ∀i,i<len-> ∃(cs':List Value) (y:DataW H × List MemPlace),cs'.length=m/\(∀j,j<m->w.cell? (a.add (i*m+j))=cs'[j]?)/\aqG enc P w base spare held n e cs'=some y/\E[i]? =some y.1:=by
 rcases DataW.trod_slice ht h with⟨h0,h1⟩|⟨a,len,cap,elems,rest,n,hf,hcs,hx,hb,hl,hm,hlen,hel,-, -⟩
 ·exact .inl ⟨h0,by rw[h1]⟩
 ·refine .inr ⟨a,len,cap,elems.map (·.1),rest.map (·.1),n,hf,hcs,hl,hm,by rw[hx],by rw[ao3,hlen],fun i hi=>?_⟩
  have h1:=hel i hi;rw[amK (by omega),hC]at h1;obtain⟨cs',hc,ht'⟩:=Option.bind_eq_some_iff.1 h1;obtain⟨_,hcl,hat⟩:=World.cells?_some hc;refine⟨cs',_,hcl,fun j hj=>?_,ht',by rw[ao7,amK (by omega)];rfl⟩;rw[<-Go.Deep.add_add];exact hat j hj
end
theorem Wv{H:Type}{P:Program}{e:TypeId}: ∀{E:List (DataW H)} {d:DataW H},d∈E-> ∀n∈d.weights P e,n∈DataW.weightsAll P e E
 | x::r,d,h,n,hn=>by
   unfold DataW.weightsAll;rcases amY.1 h with rfl|h
   ·exact List.mem_append_left _ hn
   ·exact List.mem_append_right _ (Wv h n hn)
theorem FF{H:Type}{P:Program}{t e:TypeId}{E S:List (DataW H)}{B b:Nat}(ht:P.underlying t=some (.slice e))(hb:P.bytesOf e=b)(hw: ∀k∈(DataW.slice E S).weights P t,k<=B):
 E.length*b<=B/\ ∀d∈E,∀k∈d.weights P e,k<=B:=by
 simp only[DataW.weights,ht,amY,List.mem_append]at hw;refine⟨?_,fun d hd k hk=>hw k (.inr (.inl (Wv hd k hk)))⟩;have:=hw _ (.inl rfl);rw[hb]at this;have h2:E.length*b<=(E.length+S.length)*b:=aqr _ (by omega);omega
theorem BV{H:Type}{P:Program}{t:TypeId}{fs:Array Field}{parts:List (DataW H)}{B:Nat}(ht:P.underlying t=some (.struct fs))(hw: ∀k∈(DataW.agg parts).weights P t,k<=B)
 {j:Nat} {f:Field} {d:DataW H} (hf:fs[j]? =some f) (hd:parts[j]? =some d) {ft:TypeId} (hft:f.type=ft): ∀k∈d.weights P ft,k<=B:=by
 subst hft;simp only[DataW.weights,ht]at hw;exact fun k hk=>hw k (aqI (j:=j) (by rw[ao7,Array.getElem?_toList,hf];rfl) hd k hk)
theorem Bu{H:Type}{xs:List (DataW H × List MemPlace)}{j:Nat}{y:DataW H × List MemPlace}(h:xs[j]? =some y):(xs.map (·.1))[j]? =some y.1:=by rw[ao7,h];rfl
theorem acQ{k:Int}(h:(Lit.int .i64 k).wf=true):fT k:=adj h
section
variable {H:Type} {enc:TypeId × Value->H} {W:World}
abbrev td(enc:TypeId × Value->H)(W:World)(n:Nat)(t:TypeId)(cs:List Value)(y:DataW H × List MemPlace):Prop:=aqG enc prog W 0 (fun _=>true) true n t cs=some y
theorem wu{n:Nat}{cs:List Value}{y:DataW H × List MemPlace}(h:td enc W n 9 cs y): ∃s:Tx,cs=[.string (tx s)]/\s.length<=9223372036854775807:=by
 obtain⟨s,hs,-, hl⟩:=DataW.trod_string underlying9 h;obtain⟨t,rfl⟩:=Wl s;exact⟨t,hs,by rw[aP]at hl;unfold maxLen at hl;exact hl⟩
theorem lS{n:Nat}{cs:List Value}{y:DataW H × List MemPlace}(h:td enc W n 3 cs y): ∃k:Int,cs=[.int .i64 k]/\fT k:=by
 obtain⟨k,hk,-, hw⟩:=DataW.trod_int underlying3 h;exact⟨k,hk,acQ hw⟩
theorem fZ{v:Value}{cs:List Value}{o:Nat}(h:(cs.drop o).take 1=[v]):cs[o]? =some v:=by
 have:=congrArg (·[0]?) h;simpa using this
theorem Dx{cs l:List Value}{o k j:Nat}(h:(cs.drop o).take k=l)(hj:j<k):cs[o+j]? =l[j]? :=by
 rw[<-h,aob hj,aoi]
theorem ah1{n:Nat}{cs:List Value}{y:DataW H × List MemPlace}(h:td enc W n 25 cs y): ∃t:Th,cs=jP t/\t.loc.length<=9223372036854775807/\fT t.thread/\fT t.au:=by
 obtain⟨xs,m,-, -, hcl,hxl,hg⟩:=aqE underlying25 h;obtain⟨y0,-, r0⟩:=eU hxl hg 0 _ rfl 3 0 1 rfl rfl (by kernel_rfl);obtain⟨y1,-, r1⟩:=eU hxl hg 1 _ rfl 3 1 1 rfl rfl (by kernel_rfl);obtain⟨y2,-, r2⟩:=eU hxl hg 2 _ rfl 9 2 1 rfl rfl (by kernel_rfl);obtain⟨k0,h0,b0⟩:=lS r0;obtain⟨k1,h1,b1⟩:=lS r1;obtain⟨s2,h2,l2⟩:=wu r2;have hc:cs.length=3:=hcl.trans (by kernel_rfl);refine⟨⟨k0,k1,s2⟩,?_,l2,b0,b1⟩;apply aps;intro j
 match j with
 |0=>exact fZ h0
 |1=>exact fZ h1
 |2=>exact fZ h2
 |j+3=>rw[an8 (by omega),an8 (by simp)]
theorem ahY{n:Nat}{cs:List Value}{y:DataW H × List MemPlace}(h:td enc W n 56 cs y): ∃x:aF,cs=fV x/\(x.loc.length<=9223372036854775807/\x.aE.length<=9223372036854775807)/\fT x.thread/\fT x.au:=by
 obtain⟨xs,m,-, -, hcl,hxl,hg⟩:=aqE underlying56 h;obtain⟨y0,-, r0⟩:=eU hxl hg 0 _ rfl 3 0 1 rfl rfl (by kernel_rfl);obtain⟨y1,-, r1⟩:=eU hxl hg 1 _ rfl 3 1 1 rfl rfl (by kernel_rfl);obtain⟨y2,-, r2⟩:=eU hxl hg 2 _ rfl 9 2 1 rfl rfl (by kernel_rfl);obtain⟨y3,-, r3⟩:=eU hxl hg 3 _ rfl 54 3 2 rfl rfl (by kernel_rfl);obtain⟨k0,h0,b0⟩:=lS r0;obtain⟨k1,h1,b1⟩:=lS r1;obtain⟨s2,h2,l2⟩:=wu r2;obtain⟨xs',m',-, -, AJ,A7,hg'⟩:=aqE underlying54 r3;obtain⟨z0,-, q0⟩:=eU A7 hg' 0 _ rfl 9 0 1 rfl rfl (by kernel_rfl);obtain⟨z1,-, q1⟩:=eU A7 hg' 1 _ rfl 3 1 1 rfl rfl (by kernel_rfl);obtain⟨s3,h3,l3⟩:=wu q0;obtain⟨k4,h4, -⟩:=lS q1;have hc:cs.length=5:=hcl.trans (by kernel_rfl);refine⟨⟨k0,k1,s2,s3,k4⟩,?_,⟨l2,l3⟩,b0,b1⟩;apply aps;intro j
 match j with
 |0=>exact fZ h0
 |1=>exact fZ h1
 |2=>exact fZ h2
 |3=>have:=fZ h3;rwa[aob (by omega),aoi]at this
 |4=>have:=fZ h4;rwa[aob (by omega),aoi]at this
 |j+5=>rw[an8 (by omega),an8 (by simp)]
theorem ahZ{n:Nat}{cs:List Value}{y:DataW H × List MemPlace}(h:td enc W n 50 cs y): ∃x:Ins,cs=iC x/\x.loc.length<=9223372036854775807/\x.label.length<=9223372036854775807:=by
 obtain⟨xs,m,-, -, hcl,hxl,hg⟩:=aqE underlying50 h;obtain⟨y0,-, r0⟩:=eU hxl hg 0 _ rfl 3 0 1 rfl rfl (by kernel_rfl);obtain⟨y1,-, r1⟩:=eU hxl hg 1 _ rfl 3 1 1 rfl rfl (by kernel_rfl);obtain⟨y2,-, r2⟩:=eU hxl hg 2 _ rfl 3 2 1 rfl rfl (by kernel_rfl);obtain⟨y3,-, r3⟩:=eU hxl hg 3 _ rfl 3 3 1 rfl rfl (by kernel_rfl);obtain⟨y4,-, r4⟩:=eU hxl hg 4 _ rfl 3 4 1 rfl rfl (by kernel_rfl);obtain⟨y5,-, r5⟩:=eU hxl hg 5 _ rfl 9 5 1 rfl rfl (by kernel_rfl);obtain⟨y6,-, r6⟩:=eU hxl hg 6 _ rfl 9 6 1 rfl rfl (by kernel_rfl);obtain⟨y7,-, r7⟩:=eU hxl hg 7 _ rfl 3 7 1 rfl rfl (by kernel_rfl);obtain⟨k0,h0, -⟩:=lS r0;obtain⟨k1,h1, -⟩:=lS r1;obtain⟨k2,h2, -⟩:=lS r2;obtain⟨k3,h3, -⟩:=lS r3;obtain⟨k4,h4, -⟩:=lS r4;obtain⟨s5,h5,l5⟩:=wu r5;obtain⟨s6,h6,l6⟩:=wu r6;obtain⟨k7,h7, -⟩:=lS r7;have hc:cs.length=8:=hcl.trans (by kernel_rfl);refine⟨⟨k0,k1,k2,k3,k4,s5,s6,k7⟩,?_,l5,l6⟩;apply aps;intro j
 match j with
 |0=>exact fZ h0
 |1=>exact fZ h1
 |2=>exact fZ h2
 |3=>exact fZ h3
 |4=>exact fZ h4
 |5=>exact fZ h5
 |6=>exact fZ h6
 |7=>exact fZ h7
 |j+8=>rw[an8 (by omega),an8 (by simp[iC])]
theorem ah0: ∀(n:Nat) {cs:List Value} {y:DataW H × List MemPlace},td enc W n 28 cs y->(∀k∈y.1.weights prog 28,k<=reachBytes)-> ∃x:Nd,cs=cN x/\cH W x:=by
 intro n
 induction n using Nat.strongRecOn with
 | _ n ih=>
   intro cs y h hw;obtain⟨xs,m,hnm,hy,hcl,hxl,hg⟩:=aqE underlying28 h;obtain⟨y0,-, r0⟩:=eU hxl hg 0 _ rfl 3 0 1 rfl rfl (by kernel_rfl);obtain⟨y1,-, r1⟩:=eU hxl hg 1 _ rfl 25 1 3 rfl rfl (by kernel_rfl);obtain⟨y2,-, r2⟩:=eU hxl hg 2 _ rfl 3 4 1 rfl rfl (by kernel_rfl);obtain⟨y3,e3,r3⟩:=eU hxl hg 3 _ rfl 26 5 1 rfl rfl (by kernel_rfl);obtain⟨k0,h0, -⟩:=lS r0;obtain⟨t1,h1,l1,-, -⟩:=ah1 r1;obtain⟨k2,h2, -⟩:=lS r2;rw[hy]at hw;have hw3:=BV (j:=3) underlying28 hw rfl (Bu e3) (ft:=26) rfl;have hc:cs.length=6:=hcl.trans (by kernel_rfl)
   have fin: ∀(a:Option Addr) (l:List Nd) (c:Nat),(cs.drop 5).take 1=[.slice a l.length c]->cs=cN (.mk k0 t1 k2 a c l):=fun a l c h3=>by
    apply aps;intro j
    match j with
    |0=>exact fZ h0
    |1=>have e:=Dx (o:=1) (k:=3) (j:=0) h1 (by omega);exact e
    |2=>have e:=Dx (o:=1) (k:=3) (j:=1) h1 (by omega);exact e
    |3=>have e:=Dx (o:=1) (k:=3) (j:=2) h1 (by omega);exact e
    |4=>exact fZ h2
    |5=>exact fZ h3
    |j+6=>rw[an8 (by omega),an8 (by simp)]
   rcases Fm underlying26 (show prog.cellsOf 28=6 by kernel_rfl) r3 with⟨h3, -⟩|⟨a,len,cap,E,S,n',hf,h3,hl,hm,hx3,xT,hel⟩
   ·exact⟨.mk k0 t1 k2 none 0 [],fin none [] 0 h3,⟨_,l1,bf.nil _ _,amS _,fun k hk=>absurd hk (by simp[Nd.kids])⟩⟩
   ·rw[hx3]at hw3
    obtain⟨hb,hwk⟩:=FF underlying26 (show prog.bytesOf 28=72 by kernel_rfl) hw3;simp only[reachBytes]at hb
    obtain⟨l,cV,hE,hQ⟩:=Fh (w:=W) (nM:=cN) (m:=6) (Q:=fun _ x=>cH W x) ja (by omega) (a:=a) (len:=len) (.mk 0 eN 0 none 0 []) (by omega) (fun i hi=>by
     obtain⟨cs',y',AJ,hat,ht,he⟩:=hel i hi;obtain⟨x,hx,hin⟩:=ih n' (by omega) ht (hwk _ (aou he));exact⟨x,hin,fun j hj=>by rw[hat j hj,hx]⟩)
    refine⟨.mk k0 t1 k2 (some a) cap l,fin _ l _ (by rw[cV];exact h3),⟨_,l1,hE,by show l.length<=cap;omega,fun x hx=>?_⟩⟩;obtain⟨i,hi⟩:=aoh.1 (show x∈l from hx);exact hQ i x hi
theorem acR(x:Ins):(iC x).length=8:=rfl
theorem ahX{n:Nat}{cs:List Value}{y:DataW H × List MemPlace}(h:td enc W n 75 cs y)(hw: ∀k∈y.1.weights prog 75,k<=reachBytes): ∃x:Cd,cs=nJ x/\qO W x/\x.l.length*80<=140737488351232:=by
 rcases Fm underlying75 (show prog.cellsOf 50=8 by kernel_rfl) h with⟨h3, -⟩|⟨a,len,cap,E,S,n',hf,h3,hl,hm,hx3,xT,hel⟩
 ·exact⟨⟨none,0,[]⟩,h3,⟨Is.nil _ _,amS _,fun i hi=>absurd hi (by simp)⟩,by simp⟩
 ·rw[hx3]at hw
  obtain⟨hb, -⟩:=FF underlying75 (show prog.bytesOf 50=80 by kernel_rfl) hw;simp only[reachBytes]at hb
  obtain⟨l,cV,hE,hQ⟩:=Fh (w:=W) (nM:=iC) (m:=8) (Q:=fun _ (x:Ins)=>x.loc.length<=9223372036854775807/\x.label.length<=9223372036854775807) acR (by omega) (a:=a) (len:=len) Rh (by omega) (fun i hi=>by
   obtain⟨cs',y',AJ,hat,ht,he⟩:=hel i hi;obtain⟨x,hx,h1,h2⟩:=ahZ ht;exact⟨x,⟨h1,h2⟩,fun j hj=>by rw[hat j hj,hx]⟩)
  refine⟨⟨some a,cap,l⟩,by rw[h3,<-cV],⟨⟨hE.row,hE.len⟩,by show l.length<=cap;omega,fun i hi=>?_⟩,by show l.length*80<=_;rw[cV,<-xT];omega⟩;obtain⟨q,hq⟩:=aoh.1 hi;exact hQ q i hq
theorem ah2{n:Nat}{cs:List Value}{y:DataW H × List MemPlace}(h:td enc W n 32 cs y)(hw: ∀k∈y.1.weights prog 32,k<=reachBytes): ∃t:ak,cs=cT t/\dw W t/\Gx t:=by
 obtain⟨xs,m,hnm,hy,hcl,hxl,hg⟩:=aqE underlying32 h;obtain⟨y0,-, r0⟩:=eU hxl hg 0 _ rfl 3 0 1 rfl rfl (by kernel_rfl);obtain⟨y1,-, r1⟩:=eU hxl hg 1 _ rfl 9 1 1 rfl rfl (by kernel_rfl);obtain⟨y2,-, r2⟩:=eU hxl hg 2 _ rfl 9 2 1 rfl rfl (by kernel_rfl);obtain⟨y3,e3,r3⟩:=eU hxl hg 3 _ rfl 22 3 1 rfl rfl (by kernel_rfl);obtain⟨y4,e4,r4⟩:=eU hxl hg 4 _ rfl 23 4 1 rfl rfl (by kernel_rfl);obtain⟨y5,e5,r5⟩:=eU hxl hg 5 _ rfl 30 5 7 rfl rfl (by kernel_rfl);rw[hy]at hw;have hw3:=BV (j:=3) underlying32 hw rfl (Bu e3) (ft:=22) rfl;have Ed:=BV (j:=4) underlying32 hw rfl (Bu e4) (ft:=23) rfl;have QU:=BV (j:=5) underlying32 hw rfl (Bu e5) (ft:=30) rfl;obtain⟨k0,h0, -⟩:=lS r0;obtain⟨s1,h1,l1⟩:=wu r1;obtain⟨s2,h2,l2⟩:=wu r2;obtain⟨xs',m',-, hy5,AJ,A7,hg'⟩:=aqE underlying30 r5;rw[hy5]at QU;obtain⟨z0,-, q0⟩:=eU A7 hg' 0 _ rfl 3 0 1 rfl rfl (by kernel_rfl);obtain⟨z1,f1,q1⟩:=eU A7 hg' 1 _ rfl 28 1 6 rfl rfl (by kernel_rfl);have hwn:=BV (j:=1) underlying30 QU rfl (Bu f1) (ft:=28) rfl;obtain⟨kq,hq, -⟩:=lS q0;obtain⟨nd,hn,hnd⟩:=ah0 _ q1 hwn;have hc:cs.length=12:=hcl.trans (by kernel_rfl)
 obtain⟨ia,ic,li,h3,hI,hci,P9,hzi⟩: ∃(ia:Option Addr) (ic:Nat) (li:List aF),(cs.drop 3).take 1=[.slice ia li.length ic]/\bf fV W ia li/\li.length<=ic/\(∀x∈li,(x.loc.length<=9223372036854775807/\x.aE.length<=9223372036854775807)/\fT x.thread/\fT x.au)/\li.length*56<=140737488351232:=by
  rcases Fm underlying22 (show prog.cellsOf 56=5 by kernel_rfl) r3 with⟨h3, -⟩|⟨a,len,cap,E,S,n',hf,h3,hl,hm,hx3,xT,hel⟩
  ·exact⟨none,0,[],h3,bf.nil _ _,amS _,fun x hx=>absurd hx (by simp),by simp⟩
  ·rw[hx3]at hw3
   obtain⟨hb, -⟩:=FF underlying22 (show prog.bytesOf 56=56 by kernel_rfl) hw3;simp only[reachBytes]at hb
   obtain⟨l,cV,hE,hQ⟩:=Fh (w:=W) (nM:=fV) (m:=5) (Q:=fun _ (x:aF)=>(x.loc.length<=9223372036854775807/\x.aE.length<=9223372036854775807)/\fT x.thread/\fT x.au) lB (by omega) (a:=a) (len:=len) ⟨0,0,[],[],0⟩ (by omega) (fun i hi=>by
    obtain⟨cs',y',AJ,hat,ht,he⟩:=hel i hi;obtain⟨x,hx,hq⟩:=ahY ht;exact⟨x,hq,fun j hj=>by rw[hat j hj,hx]⟩)
   refine⟨some a,cap,l,by rw[h3,<-cV],hE,by omega,fun x hx=>?_,by rw[cV,<-xT];omega⟩;obtain⟨q,hq⟩:=aoh.1 hx;exact hQ q x hq
 obtain⟨ca,cc,lc,h4,hC,hcc,P8,hzc⟩: ∃(ca:Option Addr) (cc:Nat) (lc:List Cd),(cs.drop 4).take 1=[.slice ca lc.length cc]/\bf nJ W ca lc/\lc.length<=cc/\(∀x∈lc,qO W x/\x.l.length*80<=140737488351232)/\lc.length*24<=140737488351232:=by
  rcases Fm underlying23 (show prog.cellsOf 75=1 by kernel_rfl) r4 with⟨h3, -⟩|⟨a,len,cap,E,S,n',hf,h3,hl,hm,hx3,xT,hel⟩
  ·exact⟨none,0,[],h3,bf.nil _ _,amS _,fun x hx=>absurd hx (by simp),by simp⟩
  ·rw[hx3]at Ed
   obtain⟨hb,hwk⟩:=FF underlying23 (show prog.bytesOf 75=24 by kernel_rfl) Ed;simp only[reachBytes]at hb
   obtain⟨l,cV,hE,hQ⟩:=Fh (w:=W) (nM:=nJ) (m:=1) (Q:=fun _ (x:Cd)=>qO W x/\x.l.length*80<=140737488351232) GQ (by omega) (a:=a) (len:=len) ⟨none,0,[]⟩ (by omega) (fun i hi=>by
    obtain⟨cs',y',AJ,hat,ht,he⟩:=hel i hi;obtain⟨x,hx,hq⟩:=ahX ht (hwk _ (aou he));exact⟨x,hq,fun j hj=>by rw[hat j hj,hx]⟩)
   refine⟨some a,cap,l,by rw[h3,<-cV],hE,by omega,fun x hx=>?_,by rw[cV,<-xT];omega⟩;obtain⟨q,hq⟩:=aoh.1 hx;exact hQ q x hq
 refine⟨⟨k0,s1,s2,ia,ic,li,ca,cc,lc,kq,nd⟩,?_,⟨l1,l2,hI,hci,fun x hx=>(P9 x hx).1,fun x hx=>(P9 x hx).2,hC,hcc,fun x hx=>(P8 x hx).1,hnd⟩,⟨hzi,hzc,fun x hx=>(P8 x hx).2⟩⟩
 have hh: ∀j,j<6->cs[6+j]? =(cN nd)[j]? :=fun j hj=>by
  have:=Dx (o:=1) (k:=6) (j:=j) hn hj;rw[aob (by omega),aoi]at this;rw[<-this]
  congr 1
  omega
 apply aps;intro j
 match j with
 |0=>exact fZ h0
 |1=>exact fZ h1
 |2=>exact fZ h2
 |3=>exact fZ h3
 |4=>exact fZ h4
 |5=>have:=fZ hq;rwa[aob (by omega),aoi]at this
 |6=>exact hh 0 (by omega)
 |7=>exact hh 1 (by omega)
 |8=>exact hh 2 (by omega)
 |9=>exact hh 3 (by omega)
 |10=>exact hh 4 (by omega)
 |11=>exact hh 5 (by omega)
 |j+12=>rw[an8 (by omega),an8 (by simp)]
theorem afb{r:Reach}{b0:Nat}{v:Value}{d:DataW H}{p:List MemPlace}(hv:Value.okWide prog W r b0 32 v)
 (h:DataW.Trod enc prog W 0 (fun _=>true) true 32 v d p)
 {ts:List TypeId} {ds:List (DataW H)} (hsz:(DataW.weightsEach prog ts ds).all (· <=reachBytes)=true) (j:Nat) (htj:ts[j]? =some 32) (hdj:ds[j]? =some d):
 ∃t:ak,v=vT t/\dw W t/\Gx t:=by
 obtain⟨cs,rfl, -⟩:=okWide_struct underlying32 hv;obtain⟨fuel,hf⟩:=h;obtain⟨t,ht,h1,h2⟩:=ah2 hf (fun k hk=>of_decide_eq_true (List.all_eq_true.1 hsz k (aqI htj hdj k hk)));refine⟨t,?_,h1,h2⟩;have:cs.toList=cT t:=ht;show Value.agg cs= .agg #[.int .i64 t.af,.string (tx t.name),.string (tx t.aC),.slice t.ia t.init.length t.ic,.slice t.ca t.code.length t.cc,.int .i64 t.q,.int .i64 t.node.kind,.int .i64 t.node.th.thread,.int .i64 t.node.th.au,.string (tx t.node.th.loc),.int .i64 t.node.val,.slice t.node.a t.node.kids.length t.node.c]
 congr 1
 exact Array.toList_inj.1 this
end
end Go.Proofs.YtkbbgjloifmmbaaGreatDoor
namespace Go.Proofs.YtkbbgjloifmmbaaGreatDoor
open _root_.Go.Proofs.Tryz
open _root_.List renaming getElem?_eq_some_iff->ano,getElem?_eq_none->an8,length_append->aoE,getElem?_eq_getElem->amK,length_cons->ans,length_nil->anX,take_of_length_le->apq,mem_iff_getElem?->aoh,getElem?_map->ao7,getElem?_take_of_lt->aob,ext_getElem?->aps,mem_of_getElem?->aou,getElem?_drop->aoi,getD_eq_getElem?_getD->apo,length_map->ao3,replicate->ao8,length_take->aoc,replicate_succ->ap2,foldl_append->aqF,intercalate->aqp,getElem?_replicate->aqH,map_append->aof,getElem?_set_self->aqo,set_append_right->ap3,getElem?_mapIdx->ao9,mem_of_mem_take->aqJ,mem_cons->amY,flatMap_append->aqi,set_cons_zero->ap5,take_length->anG,range->am9,length_set->apR
open _root_.Go.DataW renaming trod_struct->aqE,trod->aqG,weights_mem_each->aqI
open _root_.Bool renaming and_eq_true->am6
open _root_.Nat renaming le_refl->amS,mul_le_mul_right->aqr,sub_self->ap6,lt_succ_iff_lt_or_eq->an5
open _root_.Option.some renaming injEq->anK
theorem Jx(t y:Tx): ∀l:List Tx,iS t (l++[y])=if l.any (bB t)then iS t l++[y]else if bB t y then l++[t,y]else l++[y,t]
 |[]=>by simp[iS]
 | z::r=>by
   rw[List.cons_append,iS,Jx t y r];cases h:bB t z
   ·simp only[List.any_cons,h,Bool.false_or,iS,if_false,Bool.false_eq_true]
    by_cases h2:r.any (bB t)=true
    ·simp[h2]
    ·by_cases h3:bB t y=true
     ·simp[h2,h3]
     ·simp[h2,h3]
   ·simp[h,iS]
def gK(t:Tx)(l:List Tx):List Tx:=if l.any (bB t)then iS t l else l
theorem Ro{t:Tx}: ∀{l:List Tx},¬l.any (bB t)=true->iS t l=l++[t]
 |[],_=>rfl
 | z::r,h=>by
   simp only[List.any_cons,Bool.or_eq_true,not_or]at h;rw[iS,if_neg h.1,Ro h.2];rfl
theorem adf(t:Tx)(l:List Tx):iS t l=if l.any (bB t)then gK t l else gK t l++[t]:=by
 unfold gK
 by_cases h:l.any (bB t)=true
 ·rw[if_pos h,if_pos h]
 ·rw[if_neg h,if_neg h];exact Ro h
theorem afk{t y:Tx}{l:List Tx}(h:l.any (bB t)=true):gK t (l++[y])=gK t l++[y]:=by
 unfold gK;rw[if_pos (by simp[h]),if_pos h,Jx,if_pos h]
theorem afj{t y:Tx}{l:List Tx}(h:l.any (bB t)=false)(h2:bB t y=true):gK t (l++[y])=gK t l++[t]++[y]:=by
 unfold gK;rw[if_pos (by simp[h2]),if_neg (by simp[h]),Jx,if_neg (by simp[h]),if_pos h2];simp
theorem afi{t y:Tx}{l:List Tx}(h:l.any (bB t)=false)(h2:bB t y=false):gK t (l++[y])=gK t l++[y]:=by
 unfold gK;rw[if_neg (by simp[h,h2]),if_neg (by simp[h])]
theorem Rn(t:Tx)(l:List Tx):(iS t l).length=l.length+1:=by
 induction l with
 |nil=>simp[iS]
 |cons z r ih=>unfold iS;split<;>simp only[ans]<;>omega
theorem afh(t:Tx)(l:List Tx):(gK t l).length<=l.length+1:=by
 unfold gK;split
 ·rw[Rn];exact amS _
 ·omega
theorem EO(l:List Tx)(t:Tx):(fF l t).length<=l.length+1:=by
 unfold fF;split
 ·omega
 ·split
  ·omega
  ·rw[Rn];exact amS _
def eu(acc:List Tx)(l:List Tx):List Tx:=l.foldl fF acc
theorem Ar(acc l r:List Tx):eu acc (l++r)=eu (eu acc l) r:=aqF
def nu(l:List aF):List Tx:=l.flatMap fun x=>[x.loc,x.aE]
def kR(l:List Cd):List Tx:=l.flatMap fun x=>x.l.map (·.loc)
theorem jY{α:Type}{l:List α}{k:Nat}{x:α}(h:l[k]? =some x):l.take (k+1)=l.take k++[x]:=by
 obtain⟨hlt,rfl⟩:=ano.1 h;exact List.take_succ_eq_append_getElem hlt
theorem ahM{l:List aF}{k:Nat}{x:aF}(h:l[k]? =some x)(acc:List Tx):eu acc (nu (l.take (k+1)))=fF (fF (eu acc (nu (l.take k))) x.loc) x.aE:=by
 rw[jY h];unfold nu;rw[aqi,Ar];rfl
theorem ahK{l:List Cd}{k:Nat}{x:Cd}(h:l[k]? =some x)(acc:List Tx):eu acc (kR (l.take (k+1)))=eu (eu acc (kR (l.take k))) (x.l.map (·.loc)):=by
 rw[jY h];unfold kR;rw[aqi,Ar];simp
theorem SG{α:Type}(f:α->Tx){l:List α}{k:Nat}{x:α}(h:l[k]? =some x)(acc:List Tx):eu acc ((l.take (k+1)).map f)=fF (eu acc ((l.take k).map f)) (f x):=by
 rw[jY h,aof,Ar];rfl
theorem aeV(t:ak):gH t=eu (eu (eu [] (nu t.init)) (kR t.code)) ((jM t).map (·.loc)):=by
 unfold gH ud;rw[show ∀l,List.foldl fF [] l=eu [] l from fun _=>rfl,Ar,Ar];rfl
theorem alq(l:List Tx)(s:Tx):eX (l++[s])=max (eX l) s.length:=by unfold eX;rw[aqF];rfl
theorem LP{l:List Tx}{k:Nat}{s:Tx}(h:l[k]? =some s):eX (l.take (k+1))=max (eX (l.take k)) s.length:=by rw[jY h,alq]
theorem alp: ∀{l:List Tx} {s:Tx},s∈l->s.length<=eX l:=by
 intro l s h;obtain⟨k,hk⟩:=aoh.1 h
 have key: ∀m,k<m->s.length<=eX (l.take m):=by
  intro m
  induction m with
  |zero=>intro h;omega
  | succ m ih=>
    intro hm
    by_cases hml:m<l.length
    ·rw[LP (amK hml)]
     rcases an5.1 hm with h1|h1
     ·have:=ih h1;omega
     ·subst h1
      have:l[k]=s:=by have:=ano.1 hk;exact this.2
      rw[this];omega
    ·have hkl:=(ano.1 hk).1
     have:=ih (by omega);rw[apq (show l.length<=m by omega)]at this;rw[apq (show l.length<=m+1 by omega)];exact this
 have:=key l.length (ano.1 hk).1
 rwa[anG]at this
theorem Kh(n:Nat)(s:Tx):(lP n s).length=max n s.length:=by unfold lP;rw[aoE,List.length_replicate];omega
theorem SL{n:Int}(h:aY n=true):(Lib.itoa n).length<=21:=by
 unfold aY at h;simp only[am6,decide_eq_true_eq]at h;exact Lib.itoa_length_le n (by omega) (by omega)
theorem Uu{i:Ins}(h:dy i=true):(dJ i).length<=70:=by
 unfold dy kQ at h;unfold dJ
 by_cases h1:i.op=1
 ·rw[if_pos h1]at h⊢
  simp only[am6]at h;have a:=(iU h.1.1).2;have b:=SL h.1.2;simp only[aoE,ans,anX];omega
 ·rw[if_neg h1]at h⊢
  by_cases h2:i.op=2
  ·rw[if_pos h2]at h⊢
   simp only[am6]at h;have a:=(iU h.1.1).2;obtain⟨k,hk,e⟩:=qC h.1.2;have b:(rX i.a).length<=4:=by rw[e];exact pI hk
   simp only[aoE,ans,anX];omega
  ·rw[if_neg h2]at h⊢
   by_cases h3:i.op=3
   ·rw[if_pos h3]at h⊢
    simp only[am6]at h;have a:=(iU h.1.1).2;obtain⟨k,hk,e⟩:=qC h.1.2;have b:(rX i.d).length<=4:=by rw[e];exact pI hk
    simp only[aoE,ans,anX];omega
   ·rw[if_neg h3]at h⊢
    by_cases h4:i.op=4
    ·rw[if_pos h4]at h⊢
     simp only[am6]at h;obtain⟨k,hk,e⟩:=qC h.1.1;have b:(rX i.d).length<=4:=by rw[e];exact pI hk
     have c:=SL h.1.2;simp only[aoE,ans,anX];omega
    ·rw[if_neg h4];simp
theorem KF{n:Int}(h:bX n=true):(rT n).length<=5:=by
 unfold bX at h;simp only[am6,decide_eq_true_eq]at h;exact kU (by omega)
theorem Pw(n:Int):(iN n).length<=2:=by unfold iN;split<;>(try split)<;>simp
theorem af5{i:Ins}(h:aU i=true):(bV i).length<=70:=by
 unfold aU at h;simp only[am6]at h;obtain⟨⟨⟨⟨ho, -⟩,hd⟩,ha⟩,hb⟩:=h;have d:=KF hd;have a:=KF ha;have b:=KF hb;have n:=Dy i.ag;have f1:=Pw ((i.ai-3)/3);have f2:=Pw ((i.ai-3)%3)
 have hl:i.op=11\/i.op=12->i.label.length<=32:=fun e=>by
  unfold dn at ho;rw[if_neg (by omega),if_pos e]at ho;exact(iU ho).2
 unfold bV
 by_cases e1:i.op=6
 ·rw[if_pos e1];simp only[aoE,ans,anX];omega
 rw[if_neg e1]
 by_cases e2:i.op=7
 ·rw[if_pos e2];simp only[aoE,ans,anX];omega
 rw[if_neg e2]
 by_cases e3:i.op=8
 ·rw[if_pos e3];simp only[aoE,ans,anX];omega
 rw[if_neg e3]
 by_cases e4:i.op=9
 ·rw[if_pos e4];simp only[aoE,ans,anX];omega
 rw[if_neg e4]
 by_cases e5:i.op=10
 ·rw[if_pos e5];simp only[aoE,ans,anX];omega
 rw[if_neg e5]
 by_cases e6:i.op=11
 ·have:=hl (.inl e6);rw[if_pos e6];simp only[aoE,ans,anX];omega
 rw[if_neg e6]
 by_cases e7:i.op=12
 ·have:=hl (.inr e7);rw[if_pos e7];simp only[aoE,ans,anX];omega
 rw[if_neg e7];split
 ·simp
 ·simp only[aoE,ans,anX];omega
theorem Zf(af:Int)(i:Ins):(dL af i).1.length<=70:=by
 unfold dL;split
 ·split
  ·rename_i h;exact Uu h
  ·simp
 ·split
  ·split
   ·rename_i h;exact af5 h
   ·simp
  ·simp
theorem alo{l:List Tx}{n:Nat}(h: ∀s∈l,s.length<=n):eX l<=n:=by
 have key: ∀(l:List Tx) (a:Nat),a<=n->(∀s∈l,s.length<=n)->l.foldl (fun n s=>max n s.length) a<=n:=by
  intro l
  induction l with
  |nil=>intro a ha _;exact ha
  |cons x r ih=>intro a ha hh;exact ih _ (by have:=hh x (by simp);dsimp only;omega) fun s hs=>hh s (by simp[hs])
 exact key l 0 (by omega) h
theorem tA(af:Int)(k:Nat)(l:List Ins):(cm af k l).length=l.length+1:=by unfold cm;simp
theorem OY(k:Nat):(cR k).length<=4:=by unfold cR;split<;>(try split)<;>(try split)<;>simp
theorem Ol(af:Int)(k:Nat)(l:List Ins): ∀s∈cm af k l,s.length<=70:=by
 intro s hs;unfold cm at hs;rcases amY.1 hs with rfl|hs
 ·have:=OY k;simp only[aoE,ans,anX];omega
 ·obtain⟨i,-, rfl⟩:=List.mem_map.1 hs
  exact Zf af i
theorem Hh(af:Int)(k:Nat)(l:List Ins)(i:Nat):((cm af k l).getD i []).length<=70:=by
 rw[apo];cases h:(cm af k l)[i]? with
 |none=>simp
 |some s=>exact Ol af k l s (aou h)
theorem Ds{t:ak}{k:Nat}{x:Cd}(h:t.code[k]? =some x):(rK t)[k]? =some (cm t.af k x.l):=by
 unfold rK;rw[ao9,h];rfl
theorem Dt(t:ak):(rK t).length=t.code.length:=by unfold rK;simp
theorem wM(t:ak):(me t).length=t.code.length:=by unfold me;rw[ao3,Dt]
theorem FH{t:ak}{k:Nat}{x:Cd}(h:t.code[k]? =some x):(me t)[k]? =some (eX (cm t.af k x.l)):=by
 unfold me;rw[ao7,Ds h];rfl
def ji(i:Nat)(t:ak):List Tx:=(rK t).map fun c=>lP (eX c) (c.getD i [])
theorem Fg{t:ak}{k:Nat}{x:Cd}(i:Nat)(h:t.code[k]? =some x):(ji i t)[k]? =some (lP (eX (cm t.af k x.l)) ((cm t.af k x.l).getD i [])):=by
 unfold ji;rw[ao7,Ds h];rfl
theorem wA(i:Nat)(t:ak):(ji i t).length=t.code.length:=by unfold ji;rw[ao3,Dt]
theorem GV(af:Int)(k:Nat)(l:List Ins):eX (cm af k l)<=70:=alo (Ol af k l)
theorem ajf(i:Nat)(t:ak): ∀s∈ji i t,s.length<=70:=by
 intro s hs;obtain⟨k,hk⟩:=aoh.1 hs;have hlt:k<t.code.length:=by rw[<-wA i t];exact(ano.1 hk).1
 rw[Fg i (amK hlt)]at hk;simp only[anK]at hk;subst hk;rw[Kh];have:=GV t.af k t.code[k].l;have:=Hh t.af k t.code[k].l i;omega
def dV(l:List Tx):Tx:=[32,124,32].intercalate l
theorem xw(x:Tx):dV [x]=x:=by simp[dV,aqp]
theorem xy(x y:Tx)(r:List Tx):dV (x::y::r)=x++([32,124,32]++dV (y::r)):=by
 simp[dV,aqp]
theorem Na: ∀(l:List Tx) (x:Tx),l≠[]->dV (l++[x])=dV l++[32,124,32]++x
 |[],x,h=>absurd rfl h
 |[y],x,_=>by rw[show[y]++[x]=[y,x]from rfl,xy,xw,xw];simp
 | y::z::r,x,_=>by
   rw[show(y::z::r)++[x]=y::z::(r++[x])from rfl,xy,xy,show z::(r++[x])=(z::r)++[x]from rfl,Na (z::r) x (by simp)];simp
theorem JR(i:Nat)(t:ak):lN i t=[32]++dV (ji i t)++[32,59]:=rfl
theorem GG: ∀(l:List Tx) (n:Nat),(∀s∈l,s.length<=n)->(dV l).length<=l.length*(n+3)
 |[],n,_=>by simp[dV,aqp]
 |[x],n,h=>by rw[xw];have:=h x (by simp);simp;omega
 | x::y::r,n,h=>by
   have h1:=GG (y::r) n fun s hs=>h s (by simp at hs ⊢; exact .inr hs)
   have h2:=h x (by simp);rw[xy];simp only[aoE,ans,anX,Nat.add_mul]at*;omega
theorem Nf{l:List Tx}{x:Tx}(h:l[0]? =some x):dV (l.take 1)=x:=by
 rw[jY h];simp[xw]
theorem Ng{l:List Tx}{x:Tx}{k:Nat}(h:l[k]? =some x)(hk:k≠0):dV (l.take (k+1))=dV (l.take k)++[32,124,32]++x:=by
 rw[jY h];refine Na _ _ ?_;intro e;have h1:=congrArg List.length e;have h2:=(ano.1 h).1;rw[aoc,anX]at h1;omega
theorem Ni(i:Nat)(t:ak)(k:Nat)(hc:t.code.length<=16):(dV ((ji i t).take k)).length<=2000:=by
 have:=GG ((ji i t).take k) 70 fun s hs=>ajf i t s (aqJ hs)
 have h2:((ji i t).take k).length<=16:=by rw[aoc,wA];omega
 have h3:((ji i t).take k).length*73<=16*73:=aqr _ h2;omega
def mw(l:List Cd):Nat:=l.foldl (fun n x=>max n x.l.length) 0
theorem I0{l:List Cd}{k:Nat}{x:Cd}(h:l[k]? =some x):mw (l.take (k+1))=max (mw (l.take k)) x.l.length:=by
 rw[jY h];unfold mw;rw[aqF];rfl
theorem AM{l:List Cd}{n:Nat}(h: ∀x∈l,x.l.length<=n):mw l<=n:=by
 have key: ∀(l:List Cd) (a:Nat),a<=n->(∀s∈l,s.l.length<=n)->l.foldl (fun n s=>max n s.l.length) a<=n:=by
  intro l
  induction l with
  |nil=>intro a ha _;exact ha
  |cons x r ih=>intro a ha hh;exact ih _ (by have:=hh x (by simp);dsimp only;omega) fun s hs=>hh s (by simp[hs])
 exact key l 0 (by omega) h
theorem vD(t:ak):pg t=mw t.code:=rfl
def qn(t:ak)(n:Nat):List Tx:=(am9 n).map fun i=>lN i t
theorem Sk(t:ak)(n:Nat):qn t (n+1)=qn t n++[lN n t]:=by unfold qn;rw[List.range_succ,aof];rfl
theorem JU(t:ak)(n:Nat):(qn t n).length=n:=by unfold qn;simp
theorem La(t:ak):ig t=qn t (pg t+1):=rfl
def jH(t:ak)(k:Nat):List Int:=((me t).take k).map (fun n:Nat=>(n:Int))++ao8 (t.code.length-k) 0
theorem LQ(t:ak)(k:Nat)(hk:k<=t.code.length):(jH t k).length=t.code.length:=by
 unfold jH;simp[wM];omega
def k9(t:ak)(k m:Nat):List Int:=(jH t k).set k m
theorem alw(t:ak)(k m:Nat)(hk:k<=t.code.length):(k9 t k m).length=t.code.length:=by
 unfold k9;rw[apR,LQ t k hk]
theorem alx(t:ak)(k m m':Nat):(k9 t k m).set k m'=k9 t k m':=by unfold k9;rw[List.set_set]
theorem alu(t:ak)(k m:Nat)(hk:k<t.code.length):(k9 t k m)[k]? =some (m:Int):=by
 unfold k9;rw[aqo (by rw[LQ t k (by omega)];exact hk)]
theorem ajE{l:List Int}{k:Nat}{v:Int}(h:l[k]? =some v):l.set k v=l:=by
 obtain⟨hlt,rfl⟩:=ano.1 h;exact List.set_getElem_self hlt
theorem aly(t:ak)(k:Nat)(hk:k<t.code.length):k9 t k 0=jH t k:=by
 unfold k9;refine ajE ?_;unfold jH;have h1:(((me t).take k).map (fun n:Nat=>(n:Int))).length=k:=by simp[wM];omega
 rw[List.getElem?_append_right (by omega),h1,ap6,aqH,if_pos (by omega)];rfl
theorem alv{t:ak}{k:Nat}{x:Cd}(h:t.code[k]? =some x):k9 t k (eX (cm t.af k x.l))=jH t (k+1):=by
 have hk:=(ano.1 h).1;unfold k9 jH;have h1:(((me t).take k).map (fun n:Nat=>(n:Int))).length=k:=by simp[wM];omega
 rw[jY (FH h),aof,show t.code.length-k=(t.code.length-(k+1))+1 by omega,ap2,ap3 _ _ (by omega),h1,ap6,ap5];simp
theorem alr(t:ak):jH t t.code.length=(me t).map fun n:Nat=>(n:Int):=by
 unfold jH;rw[ap6,apq (by rw[wM];omega)];simp
theorem aln{t:ak}{k:Nat}{x:Cd}(h:t.code[k]? =some x):(jH t t.code.length)[k]? =some ((eX (cm t.af k x.l):Nat):Int):=by
 rw[alr,ao7,FH h];rfl
theorem als(t:ak):jH t 0=ao8 t.code.length 0:=by unfold jH;simp
def kA(ws:List Nat)(cs:List Tx):List Tx:=List.zipWith lP ws cs
theorem TQ{ws:List Nat}{cs:List Tx}{k m:Nat}{s:Tx}(h1:ws[k]? =some m)(h2:cs[k]? =some s):(kA ws cs)[k]? =some (lP m s):=by
 unfold kA;rw[List.getElem?_zipWith,h1,h2]
theorem aft{ws:List Nat}{cs:List Tx}(h:ws.length=cs.length):(kA ws cs).length=cs.length:=by unfold kA;simp[h]
def ng(l:List Tx)(k:Nat):Tx:=if k=0 then[]else[32]++dV (l.take k)
theorem adv{l:List Tx}{x:Tx}(h:l[0]? =some x):ng l 1=ng l 0++(32::x):=by
 unfold ng;rw[if_neg (by omega),if_pos rfl,Nf h];rfl
theorem adx{l:List Tx}{x:Tx}{k:Nat}(h:l[k]? =some x)(hk:k≠0):ng l (k+1)=(ng l k++[32,124])++(32::x):=by
 unfold ng;rw[if_neg (by omega),if_neg hk,Ng h hk];simp
theorem adw{l:List Tx}{n k:Nat}(h: ∀s∈l,s.length<=n):(ng l k).length<=1+l.length*(n+3):=by
 unfold ng;split
 ·simp
 ·have h1:=GG (l.take k) n fun s hs=>h s (aqJ hs)
  have h2:(l.take k).length*(n+3)<=l.length*(n+3):=aqr _ (by rw[aoc];omega);simp only[aoE,ans,anX];omega
def fW(j:Nat)(t:ak):List Tx:=(rK t).map fun c=>c.getD j []
theorem rH(j:Nat)(t:ak):(fW j t).length=t.code.length:=by unfold fW;rw[ao3,Dt]
theorem xB{t:ak}{k:Nat}{x:Cd}(j:Nat)(h:t.code[k]? =some x):(fW j t)[k]? =some ((cm t.af k x.l).getD j []):=by
 unfold fW;rw[ao7,Ds h];rfl
def jD(j:Nat)(t:ak)(k:Nat):List Tx:=(fW j t).take k++ao8 (t.code.length-k) []
theorem yF(j:Nat)(t:ak)(k:Nat)(hk:k<=t.code.length):(jD j t k).length=t.code.length:=by
 unfold jD;simp[rH];omega
theorem Ue(j:Nat)(t:ak):jD j t 0=ao8 t.code.length []:=by unfold jD;simp
theorem Ud(j:Nat)(t:ak):jD j t t.code.length=fW j t:=by
 unfold jD;rw[ap6,apq (by rw[rH];omega)];simp
theorem Uf{t:ak}{k:Nat}{x:Cd}(j:Nat)(h:t.code[k]? =some x):(jD j t k).set k ((cm t.af k x.l).getD j [])=jD j t (k+1):=by
 have hk:=(ano.1 h).1;unfold jD;have h1:((fW j t).take k).length=k:=by rw[aoc,rH];omega
 rw[jY (xB j h),show t.code.length-k=(t.code.length-(k+1))+1 by omega,ap2,ap3 _ _ (by omega),h1,ap6,ap5];simp
theorem afV{t:ak}{k:Nat}{x:Cd}(j:Nat)(h:t.code[k]? =some x)(hl:x.l.length<j):jD j t (k+1)=jD j t k:=by
 have hk:=(ano.1 h).1;unfold jD
 have h2:(cm t.af k x.l).getD j []=[]:=by
  rw[apo,an8 (by rw[tA];omega)];rfl
 rw[jY (xB j h),h2,show t.code.length-k=(t.code.length-(k+1))+1 by omega,ap2];simp
def iI(t:ak)(j k:Nat):List Nat:=(rK t).mapIdx fun i c=>eX (c.take (if i<k then j+1 else j))
theorem pN(t:ak)(j k:Nat):(iI t j k).length=t.code.length:=by unfold iI;simp[Dt]
theorem sM{t:ak}{k:Nat}{x:Cd}(j i:Nat)(h:t.code[k]? =some x):(iI t j i)[k]? =some (eX ((cm t.af k x.l).take (if k<i then j+1 else j))):=by
 unfold iI;rw[ao9,Ds h];rfl
theorem Cb{t:ak}{l l':List Nat}(h1:l.length=t.code.length)(h2:l'.length=t.code.length)(h: ∀(k:Nat) (x:Cd),t.code[k]? =some x->l[k]? =l'[k]?):l=l':=by
 refine aps fun k=>?_
 by_cases hk:k<t.code.length
 ·exact h k _ (amK hk)
 ·rw[an8 (by omega),an8 (by omega)]
theorem WG{t:ak}{k:Nat}{x:Cd}(j:Nat)(h:t.code[k]? =some x):(iI t j k).set k (eX ((cm t.af k x.l).take (j+1)))=iI t j (k+1):=by
 refine Cb (by rw[apR,pN]) (pN _ _ _) fun i y hy=>?_
 have hi:=(ano.1 hy).1;rw[sM j (k+1) hy]
 by_cases hik:k=i
 ·subst hik
  rw[h]at hy;cases hy;rw[aqo (by rw[pN];exact hi),if_pos (by omega)]
 ·rw[List.getElem?_set_ne hik,sM j k hy]
  by_cases hlt:i<k
  ·rw[if_pos hlt,if_pos (by omega)]
  ·rw[if_neg hlt,if_neg (by omega)]
theorem alk{t:ak}{k:Nat}{x:Cd}(j:Nat)(h:t.code[k]? =some x)(hl:x.l.length<j):iI t j (k+1)=iI t j k:=by
 refine Cb (pN _ _ _) (pN _ _ _) fun i y hy=>?_
 rw[sM j (k+1) hy,sM j k hy]
 by_cases hik:k=i
 ·subst hik
  rw[h]at hy;cases hy;rw[if_pos (by omega),if_neg (by omega),apq (by rw[tA];omega),apq (by rw[tA];omega)]
 ·by_cases hlt:i<k
  ·rw[if_pos hlt,if_pos (by omega)]
  ·rw[if_neg hlt,if_neg (by omega)]
theorem WE(t:ak)(j:Nat):iI t j t.code.length=iI t (j+1) 0:=by
 refine Cb (pN _ _ _) (pN _ _ _) fun i y hy=>?_
 have hi:=(ano.1 hy).1;rw[sM j _ hy,sM (j+1) 0 hy,if_pos hi,if_neg (by omega)]
theorem alm(t:ak):iI t 0 0=ao8 t.code.length 0:=by
 refine Cb (pN _ _ _) (by simp) fun i y hy=>?_
 have hi:=(ano.1 hy).1;rw[sM 0 0 hy,if_neg (by omega),aqH,if_pos hi];rfl
theorem ack{l:List Cd}{x:Cd}(h:x∈l):x.l.length<=mw l:=by
 obtain⟨k,hk⟩:=aoh.1 h
 have key: ∀m,k<m->x.l.length<=mw (l.take m):=by
  intro m
  induction m with
  |zero=>intro h;omega
  | succ m ih=>
    intro hm
    by_cases hml:m<l.length
    ·rw[I0 (amK hml)]
     rcases an5.1 hm with h1|h1
     ·have:=ih h1;omega
     ·subst h1
      have:l[k]=x:=(ano.1 hk).2;rw[this];omega
    ·have hkl:=(ano.1 hk).1
     have:=ih (by omega);rw[apq (show l.length<=m by omega)]at this;rw[apq (show l.length<=m+1 by omega)];exact this
 have:=key l.length (ano.1 hk).1
 rwa[anG]at this
theorem alj(t:ak):iI t (pg t+1) 0=me t:=by
 refine Cb (pN _ _ _) (wM _) fun i y hy=>?_
 have:=ack (aou hy);rw[sM _ _ hy,FH hy,if_neg (by omega),apq (by rw[tA,vD];omega)]
theorem afu(t:ak)(j:Nat):kA (me t) (fW j t)=ji j t:=by
 unfold kA me fW ji;rw[List.zipWith_map_left,List.zipWith_map_right,List.zipWith_self]
theorem Zk{t:ak}{j k m:Nat}{s:Tx}(h1:(me t)[k]? =some m)(h2:(fW j t)[k]? =some s):s.length<=m/\m<=70:=by
 have hk:k<t.code.length:=by rw[<-wM t];exact(ano.1 h1).1
 rw[FH (amK hk)]at h1;rw[xB j (amK hk)]at h2;cases h1;cases h2;refine⟨?_,GV _ _ _⟩;rw[apo];cases h:(cm t.af k t.code[k].l)[j]? with
 |none=>simp
 |some s=>exact alp (aou h)
end Go.Proofs.YtkbbgjloifmmbaaGreatDoor
