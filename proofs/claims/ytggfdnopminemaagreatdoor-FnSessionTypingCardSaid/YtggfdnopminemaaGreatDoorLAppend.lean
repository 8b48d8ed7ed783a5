/- Walks: splitting. -/
import Derived.Test.YtggfdnopminemaaGreatDoorZt
import Derived.Test.YtggfdnopminemaaGreatDoorLLog2
set_option linter.all false
namespace Go.Proofs.YtggfdnopminemaaGreatDoor.L
open Go Go.RowKit
set_option maxHeartbeats 8000000
set_option maxRecDepth 100000
theorem a8p:(Tryz.prog.info? 9).map (fun i=>(i.zero,i.size,i.bytes))=some (some (.string ⟨#[]⟩),1,16):=by kernel_rfl
theorem a0q.snoc {B:Nat} {w:World} {v:Value} {l:List Str} {x:Str} (h:w.ownsRow B 9 1 v (l.length+1) (a3g l++[.string (S x)])):a0q B w v (l++[x]):=by
 unfold a0q;rw [List.length_append];simpa [a3g] using h
theorem a8r {w w1 w2:World} {v v':Value} {l:List Str} {x:Str} {o:Obj} (hsz:w.heap.size≤w1.heap.size) (hown:a0q w.heap.size w1 v l) (hb:Below w.heap.size w w1)
 (h:w2.ownsRow w.heap.size 9 1 v' (l.length+1) (a3g l++[.string (S x)])) (hg:(w1.alloc o).grownBy w2 v.ownBlock) :
 a0q w.heap.size w2 v' (l++[x])∧Below w.heap.size w w2:=
 ⟨a0q.snoc h,(hb.alloc hsz _).grown hg (by simp;omega) (fun k hk=>(World.ownsRow.lt hown k hk).1)⟩
theorem c8p (s:Str) (c:UInt8) (w:World) (hs:s.length≤2^40) :
 Calls Tryz.prog 66 #[.string (S s),.int .u8 c.toNat] w (b2b c s w):=by
 obtain⟨i0,hi,hz0,hz1,hz2⟩:=info_parts a8p
 go_enter Tryz.func66,Tryz.ntmps66
 go_wp2
 go_loopw [5,6,7] (fun v fr i wr=>∃(k f:Nat) (init:List Str),k≤s.length∧f≤k∧i=.int .i64 k∧fr=.int .i64 f∧init.length≤k∧P.split c (s.take k)=init++[(s.drop f).take (k-f)]∧a0q w.heap.size wr v init∧Below w.heap.size w wr)
  (fun _ _ i _=>s.length-(intOf i).toNat)
 case atStart=>exact⟨0,0,[],Nat.zero_le _,Nat.le_refl _,rfl,rfl,Nat.le_refl _,by simp [P.split],World.ownsRow_made _ _ _ lZ dZ (by rfl),bZ.alloc lZ _⟩
 case round=>
  exact zq4
def b3o (l:List (Str×Str)):List Value:=l.flatMap fun x=>[.string (S x.1),.string (S x.2)]
theorem b9b (l:List (Str×Str)) (x:Str×Str):b3o (l++[x])=b3o l++[.string (S x.1),.string (S x.2)]:=by simp [b3o]
def a5y (B:Nat) (w:World) (v:Value) (l:List (Str×Str)):Prop:=w.ownsRow B 86 2 v l.length (b3o l)
theorem d0t:(Tryz.prog.info? 86).map (fun i=>(i.zero,i.size,i.bytes))=some (some (.agg #[.string ⟨#[]⟩,.string ⟨#[]⟩]),2,32):=by kernel_rfl
theorem b9w {B:Nat} {w:World} {v:Value} {l:List (Str×Str)} (h:a5y B w v l):∃a cap,v=.slice a l.length cap:=by
 exact zq18
theorem d2l {w w1 w2:World} {v v':Value} {l:List (Str×Str)} {x:Str×Str} {o:Obj} (hsz:w.heap.size≤w1.heap.size) (hown:a5y w.heap.size w1 v l) (hb:Below w.heap.size w w1)
 (h:w2.ownsRow w.heap.size 86 2 v' (l.length+1) (b3o l++[.string (S x.1),.string (S x.2)])) (hg:(w1.alloc o).grownBy w2 v.ownBlock) :
 a5y w.heap.size w2 v' (l++[x])∧Below w.heap.size w w2:=by
 refine⟨?_,(hb.alloc hsz _).grown hg (by simp;omega) (fun k hk=>(World.ownsRow.lt hown k hk).1)⟩
 unfold a5y;rw [b9b,List.length_append];exact h
theorem a2g {B C:Nat} {w w':World} {e:TypeId} {size:Nat} {v:Value} {n:Nat} {xs:List Value} (h:w.ownsRow B e size v n xs) (hb:Below C w w') (hC:w.heap.size≤C):w'.ownsRow B e size v n xs:=
 h.kept (row:=none) ⟨hb.os,hb.tape,hb.output,hb.size,fun k hk _=>hb.block k oZ⟩ (by cases v.ownBlock<;>simp)
abbrev logV (d p:Str) (n:Int):Value:=.agg #[.string (S d),.string (S p),.int .i64 n]
theorem b2f (s:Str) (c:UInt8) (w:World) (hs:s.length≤2^31) (hE:Env w) :
 Calls Tryz.prog 69 #[.string (S s),.string ⟨#[c]⟩] w fun e w'=>e=.returned (.tuple #[.string (S (Lib.cut s [c]).1),.string (S (Lib.cut s [c]).2.1),.bool (Lib.cut s [c]).2.2])∧∃n,w'=w.drewN n:=d5k s [c] w hs hE
def d4f (k:Nat) (s:Str) (w:World) (e:Ending) (w':World):Prop:=
 e=.returned (.tuple #[.agg #[.string (S (P.decode k s).1.1),.string (S (P.decode k s).1.2)],.int .i64 (P.decode k s).2.1,.bool (P.decode k s).2.2])∧Below w.heap.size w w'
theorem decode (k:Nat) (s:Str) (w:World) (_:k<2^40) (hs:s.length≤2^28) (hE:Env w) :
 Calls Tryz.prog 148 #[.int .i64 k,.string (S s)] w (d4f k s w):=by
 have HE:=qh hE;clear hE
 have hl1:=(P.a6q s [10]).1
 cases h1:(Lib.cut s [10]).2.2
 ·have HF:=qh (show P.decode k s=(([],[]),0,false) by unfold P.decode;rw [h1];rfl)
  go_enter Tryz.func148,Tryz.ntmps148
  go_wp2_with fail
  refine (b2f _ 10 _ oZ (HE.o.alloc _)).mono ?_;rintro e w1 ⟨rfl,n1,rfl⟩;rw [h1];exact zq34
 ·obtain⟨line,hline⟩:∃line,line=(Lib.cut s [10]).1:=⟨_,rfl⟩;rw [←hline]at hl1
  by_cases h2:(line.length:Int)≤4000
  ·obtain⟨tt,htt⟩:∃tt,tt=(Lib.cut line [35]).1:=⟨_,rfl⟩;obtain⟨both,hboth⟩:∃both,both=(Lib.cut tt [32]).2.1:=⟨_,rfl⟩;obtain⟨c,hc⟩:∃c,c=(Lib.cut both [62]).1:=⟨_,rfl⟩;obtain⟨r,hr⟩:∃r,r=(Lib.cut both [62]).2.1:=⟨_,rfl⟩;have hl2:tt.length≤line.length:=by rw [htt];exact (P.a6q _ _).1
   have hl3:both.length≤tt.length:=by rw [hboth];exact (P.a6q _ _).2
   have hl4:c.length≤both.length:=by rw [hc];exact (P.a6q _ _).1
   have hl5:r.length≤both.length:=by rw [hr];exact (P.a6q _ _).2
   have hF:P.decode k s=if ((P.encode k c r).2&&((P.encode k c r).1==line++[10])) then ((c,r),line.length+1,true) else (([],[]),0,false):=by
    unfold P.decode;simp only [←hline,←htt,←hboth,←hc,←hr,h1,decide_eq_true h2,Bool.true_and]
   have HF0:=qh hF;clear hF;have HLINE:=qh hline;clear hline;have HTT:=qh htt;clear htt;have HBOTH:=qh hboth;clear hboth;have HC:=qh hc;clear hc;have HR:=qh hr;clear hr
   cases h3:(P.encode k c r).2<;>cases h4:((P.encode k c r).1==line++[10])
   all_goals
    have HF:=qh (show P.decode k s=_ by rw [HF0.o,h3,h4])
    go_enter Tryz.func148,Tryz.ntmps148
    go_wp2_with fail
    refine (b2f _ 10 _ oZ (HE.o.alloc _)).mono ?_
    rintro e w1 ⟨rfl,n1,rfl⟩
    rw [h1,←HLINE.o]
    go_wp2_with fail
    refine (b2f _ 35 _ oZ ((HE.o.alloc _).drewN _)).mono ?_
    rintro e w1 ⟨rfl,n2,rfl⟩
    rw [←HTT.o]
    go_wp2_with fail
    refine (b2f _ 32 _ oZ ((HE.o.alloc _).drewN _)).mono ?_
    rintro e w1 ⟨rfl,n3,rfl⟩
    rw [←HBOTH.o]
    go_wp2_with fail
    refine (b2f _ 62 _ oZ ((HE.o.alloc _).drewN _)).mono ?_
    rintro e w1 ⟨rfl,n4,rfl⟩
    rw [←HC.o,←HR.o]
    go_wp2_with fail
    refine (b0r _ _ _ _ oZ oZ (((HE.o.alloc _).drewN _).alloc _)).mono ?_
    rintro e w1 ⟨rfl,hb⟩
    rw [h3]
    obtain⟨hcc,hff⟩:=c0p hb
    have HB:=qh hb;clear hb
    have hk0:w1.cell? ⟨w.heap.size,0,none⟩=some (.string (S [])):=by rw [hcc _ _ (by simp;omega)];go_simp
    have hk1:w1.cell? ⟨w.heap.size,1,none⟩=some (.string (S [])):=by rw [hcc _ _ (by simp;omega)];go_simp
    go_wp2
    first
     |refine bodyPost_ret (v:=.tuple #[.agg #[.string (S []),.string (S [])],.int .i64 0,.bool false]) (by simp [results,Tryz.results148,go_sem,hk0,hk1]) rfl ⟨by rw [HF.o];rfl,?_⟩
     |refine bodyPost_ret (v:=.tuple #[.agg #[.string (S c),.string (S r)],.int .i64 ((line.length:Int)+1),.bool true]) (by simp [results,Tryz.results148,go_sem,hk0,hk1]) rfl ⟨by rw [HF.o];rfl,?_⟩
    exact ((((below_drewN (bZ.alloc lZ _) _).alloc sZ _).trans (HB.o.mono (by simp;omega))).setCell sZ _).setCell sZ _
  ·have HF:=qh (show P.decode k s=(([],[]),0,false) by unfold P.decode;simp only [←hline,h1,decide_eq_false h2];rfl);have h2':=Int.not_le.1 h2;have HLINE:=qh hline;clear hline h2
   go_enter Tryz.func148,Tryz.ntmps148
   go_wp2_with fail
   refine (b2f _ 10 _ oZ (HE.o.alloc _)).mono ?_;rintro e w1 ⟨rfl,n1,rfl⟩;rw [h1,←HLINE.o];exact zq34
def a4x (l:List Int):List Value:=l.map (Value.int .i64)
def a3q (B:Nat) (w:World) (v:Value) (l:List Int):Prop:=w.ownsRow B 3 1 v l.length (a4x l)
theorem a1z:(Tryz.prog.info? 3).map (fun i=>(i.zero,i.size,i.bytes))=some (some (.int .i64 0),1,8):=by kernel_rfl
theorem d2r {B:Nat} {w:World} {v:Value} {l:List Int} (h:a3q B w v l):∃a cap,v=.slice a l.length cap:=by
 exact zq18
theorem b7c {B C:Nat} {w:World} {e f:TypeId} {s t:Nat} {v u:Value} {n m:Nat} {xs ys:List Value} (h:w.ownsRow B e s v n xs) (k:w.ownsRow C f t u m ys) (hne:e≠f):v.ownBlock=none∨v.ownBlock≠u.ownBlock:=by
 rcases h.2 with⟨rfl,_⟩|⟨g,cap,cur,rfl,_,hg,_⟩
 ·exact .inl rfl
 ·refine .inr (fun eq=>?_)
  rcases k.2 with⟨rfl,_⟩|⟨g',cap',cur',rfl,_,hg',_⟩
  ·cases eq
  ·simp [Value.ownBlock]at eq;subst eq;rw [hg]at hg';injection hg' with hg';injection hg' with _ h2 _;exact hne h2
def b9d (s:Str) (w:World) (e:Ending) (w':World):Prop:=∃v u,e=.returned (.tuple #[v,u])∧a5y w.heap.size w' v (P.readAll s).1∧a3q w.heap.size w' u (P.readAll s).2.1∧Below w.heap.size w w'
theorem read (s:Str) (w:World) (hs:s.length≤2^28) (hE:Env w) :
 Calls Tryz.prog 75 #[.string (S s)] w (b9d s w):=by
 obtain⟨i0,hi,hz0,hz1,hz2⟩:=info_parts d0t
 obtain⟨j0,ji,jz0,jz1,jz2⟩:=info_parts a1z
 have HE:=qh hE;clear hE
 go_enter Tryz.func75,Tryz.ntmps75
 go_wp2
 go_loopw [4,5,6] (fun v u i wr=>∃(out:List (Str×Str)) (ends:List Int) (a:Nat),a≤s.length∧i=.int .i64 a∧out.length≤60∧ends.length=out.length∧P.runI s (60-out.length) (out,ends,a)=P.readAll s∧a5y w.heap.size wr v out∧a3q w.heap.size wr u ends∧Below w.heap.size w wr)
  (fun _ _ i _=>s.length-(intOf i).toNat)
 case atStart=>exact⟨[],[],0,Nat.zero_le _,rfl,Nat.zero_le _,rfl,rfl,(World.ownsRow_made _ _ _ lZ dZ (by rfl)).alloc _,by unfold a3q;have h:=World.ownsRow_made (base:=w.heap.size) (e:=3) (size:=1) (w.alloc (.cells #[] 86)) #[] 0 sZ dZ (by rfl);simpa [a4x] using h,(bZ.alloc lZ _).alloc sZ _⟩
 case round=>
  obtain⟨out,ends,a,ha,rfl,ho,hel,hrun,hown,howi,hbel⟩:=hrel;obtain⟨ad,cp,rfl⟩:=b9w hown;obtain⟨ad2,cp2,rfl⟩:=d2r howi;have HEL:=qh hel;clear hel;have HRUN:=qh hrun;clear hrun;have HOWN:=qh hown;clear hown;have HOWI:=qh howi;clear howi;have HBEL:=qh hbel;clear hbel;have hsz:=HBEL.o.size;obtain⟨rest,hrest⟩:∃rest,rest=s.drop a:=⟨_,rfl⟩;have hrl:rest.length+a=s.length:=by rw [hrest];simp;omega
  have HREST:=qh hrest;clear hrest
  go_wp2_with fail
  rw [←HREST.o];refine (decode _ _ _ oZ oZ (HE.o.below HBEL.o HE.o.size)).mono ?_;rintro e w1 ⟨rfl,hb⟩;obtain⟨hcc,hff⟩:=c0p hb;have hz1':=hb.size;have HB:=qh hb;clear hb
  cases h4:(P.decode out.length rest).2.2
  ·have HST:=qh (P.b8w (P.a7i (st:=(out,ends,a)) (s:=s) (by rw [←HREST.o];exact h4)) (60-out.length));go_wp2;go_ret2;exact⟨.slice ad out.length cp,.slice ad2 ends.length cp2,rfl,by rw [←HRUN.o,HST.o];exact (a2g HOWN.o HB.o lZ).alloc _,by rw [←HRUN.o,HST.o];exact (a2g HOWI.o HB.o lZ).alloc _,(HBEL.o.trans (HB.o.mono hsz)).alloc oZ _⟩
  ·have hok:=P.a4b _ _ h4;have HST:=qh (P.b7w (P.b1d (st:=(out,ends,a)) (s:=s) (by rw [←HREST.o];exact h4)) (59-out.length));obtain⟨c,hc⟩:∃c,c=(P.decode out.length rest).1.1:=⟨_,rfl⟩;obtain⟨r,hr⟩:∃r,r=(P.decode out.length rest).1.2:=⟨_,rfl⟩;obtain⟨n,hn⟩:∃n,n=(P.decode out.length rest).2.1:=⟨_,rfl⟩;rw [←hc,←hr,←hn];have hn1:1≤n:=by rw [hn];exact hok.2.1
   have hn2:n≤rest.length:=by rw [hn];exact hok.2.2
   have ho9:=hok.1;have HC:=qh hc;have HR:=qh hr;have HN:=qh hn;clear hc hr hn hok h4
   go_wp2_with (at_builtin;refine wpList_append_own _ rfl (.tmp 29) (.tmp 31) 82 rfl w.heap.size 86 i0 (.agg #[.string ⟨#[]⟩,.string ⟨#[]⟩]) 2 32 Tryz.underlying82 hi hz0 hz1 hz2 rfl dZ _ _ _ rfl (((a2g HOWN.o HB.o lZ).alloc _).alloc _) ⟨w1.heap.size+1,0,none⟩ 1 1 [.string (S c),.string (S r)] rfl rfl ?c1 ?c2 ?c3 ?c4 ?c5 ?_)
   case c1=>intro j u hj;match j,hj with|0,hj=>(simp at hj;subst hj;simp [Addr.add])|1,hj=>(simp at hj;subst hj;simp [Addr.add])
   case c2=>intro u hu;simp at hu;rcases hu with rfl|rfl<;>rfl
   case c3=>unfold maxLen;omega
   case c4=>omega
   case c5=>simp;omega
   intro v' w2 hown' hgrow _;have R:=qh (d2l (x:=(c,r)) (w1:=w1.alloc _) (by simp;omega) ((a2g HOWN.o HB.o lZ).alloc _) ((HBEL.o.trans (HB.o.mono hsz)).alloc oZ _) hown' hgrow);have hI:a3q w.heap.size w2 (.slice ad2 ends.length cp2) ends:=World.ownsRow.kept (((a2g HOWI.o HB.o lZ).alloc _).alloc _) hgrow (b7c (a2g HOWI.o HB.o lZ) (a2g HOWN.o HB.o lZ) dZ);have HI:=qh hI;have hw2:=R.o.2.size;clear hown' hgrow HOWN HOWI HBEL HB hI hcc hff;obtain⟨ad3,cp3,rfl⟩:=b9w R.o.1
   go_wp2_with (at_builtin;refine wpList_append_own _ rfl (.tmp 33) (.tmp 35) 33 rfl w.heap.size 3 j0 (.int .i64 0) 1 8 Tryz.underlying33 ji jz0 jz1 jz2 rfl dZ _ _ _ rfl (World.ownsRow.alloc HI.o _) ⟨w2.heap.size,0,none⟩ 1 1 [.int .i64 ((a:Int)+n)] rfl rfl ?d1 ?d2 ?d3 ?d4 ?d5 ?_)
   case d1=>intro j u hj;match j,hj with|0,hj=>(simp at hj;subst hj;simp [Addr.add])
   case d2=>intro u hu;simp at hu;subst hu;rfl
   case d3=>have:=HEL.o;unfold maxLen;omega
   case d4=>have:=HEL.o;omega
   case d5=>simp;omega
   intro v'' w3 howi' hgrow2 _;have hO:a5y w.heap.size w3 (.slice ad3 (out++[(c,r)]).length cp3) (out++[(c,r)]):=World.ownsRow.kept (World.ownsRow.alloc R.o.1 _) hgrow2 (b7c R.o.1 HI.o dZ);have hB:Below w.heap.size w w3:=(R.o.2.alloc hw2 _).grown hgrow2 (by simp;omega) (fun k hk=>(World.ownsRow.lt HI.o k hk).1);have hI2:a3q w.heap.size w3 v'' (ends++[(a:Int)+n]):=by unfold a3q;rw [List.length_append];simpa [a4x] using howi'
   have HO:=qh hO;have HB:=qh hB;have HI2:=qh hI2;clear hO hB hI2 hgrow2 howi' R HI;go_wp2
   go_roundw
   case rel=>exact⟨out++[(c,r)],ends++[(a:Int)+n],a+n,by omega,by go_num,by simp;omega,by simp [HEL.o],by
    rw [←HRUN.o,show 60-out.length=59-out.length+1 by omega,HST.o,←HREST.o,←HN.o,List.length_append,List.length_cons,List.length_nil,show 60-(out.length+(0+1))=59-out.length by omega];rw [show ((c,r):Str×Str)=(P.decode out.length rest).1 by rw [HC.o,HR.o]];rfl,(by have h:=HO.o;rwa [show (out++[(c,r)]).length=out.length+1 by simp]at h),HI2.o,HB.o⟩
   case measure=>simp [intOf];omega
section
variable {P:Program} (w:World)
def b5r (w:World) (size:Nat) (u:Value) (m:Nat) (news:List Value):Prop:=
 news.length=m*size∧(∀x∈news,x.oneCell'=true)∧((u=.slice none 0 0∧m=0)∨∃ad c,u=.slice (some ad) m c∧∀j x,news[j]?=some x→w.cell? (ad.add j)=some x)
theorem a4u (base:Nat) (t ty e:TypeId) (i:TypeInfo) (z:Value) (size bytes:Nat) (ht:P.underlying t=some (.slice e)) (hi:P.info? e=some i) (hz:i.zero=some z)
 (hsize:i.size=size) (hby:i.bytes=bytes) (hzs:z.cells.size=size) (hsz:0<size)
 (v:Value) (n:Nat) (xs:List Value) (hown:w.ownsRow base e size v n xs)
 (u:Value) (m:Nat) (news:List Value) (hsrc:b5r w size u m news)
 (h63:n+m≤maxLen) (hbytes:(n+m)*bytes≤140737488355328) (hbase:base≤w.heap.size) :
 ∃v' w',(Builtin.append_ #[t,t] ty #[v,u]).run P w=.ok v' w'∧w'.ownsRow base e size v' (n+m) (xs++news)∧w.grownBy w' v.ownBlock ∧
  (v'=.slice none 0 0↔v=.slice none 0 0∧m=0):=by
 obtain⟨hl,h1,⟨rfl,rfl⟩|⟨ad,c,rfl,hnews⟩⟩:=hsrc
 ·exact zq19
 ·exact zq72
theorem a0z {w:World} {ops:Array Oper} {rest:List Oper} {o:Oper} {a:Act} {Q:Exit→Act→World→Prop} (hgd:o.guard=none) (s x:Operand) (t:TypeId)
 (ho:o.op=.call { callee:=.builtin .append,args:=#[s,x],argTypes:=#[t,t] })
 (base:Nat) (e:TypeId) (i:TypeInfo) (z:Value) (size bytes:Nat) (ht:P.underlying t=some (.slice e)) (hi:P.info? e=some i) (hz:i.zero=some z)
 (hsize:i.size=size) (hby:i.bytes=bytes) (hzs:z.cells.size=size) (hsz:0<size)
 (v:Value) (n:Nat) (xs:List Value) (hs:a.eval s=v) (hown:w.ownsRow base e size v n xs)
 (u:Value) (m:Nat) (news:List Value) (hx:a.eval x=u) (hsrc:b5r w size u m news)
 (h63:n+m≤maxLen) (hbytes:(n+m)*bytes≤140737488355328) (hbase:base≤w.heap.size)
 (h:∀v' w',w'.ownsRow base e size v' (n+m) (xs++news)→w.grownBy w' v.ownBlock→(v'=.slice none 0 0↔v=.slice none 0 0∧m=0)→wpList P ops Q rest (a.put o.dst v') w'):wpList P ops Q (o::rest) a w:=
 wpList_plain hgd fun _ hK=>by
  exact zq26
end
end Go.Proofs.YtggfdnopminemaaGreatDoor.L
