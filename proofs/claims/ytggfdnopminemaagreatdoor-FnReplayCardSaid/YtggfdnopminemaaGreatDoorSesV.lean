/- Walks: the records of a. -/
import Derived.Test.YtggfdnopminemaaGreatDoorLLog3
set_option linter.all false
namespace Go.Proofs.YtggfdnopminemaaGreatDoor.L
open Go.Proofs.Tryz
open Go Go.RowKit
set_option maxHeartbeats 8000000
set_option maxRecDepth 100000
variable {l:List Int} {B C n s:Nat} {e:Go.TypeId} {v:Go.Value}
def a9p (l:List (Str×Str)):List Value:=l.flatMap λx=>[.string (S x.1),.string (S x.2)]
theorem c3j (l:List (Str×Str)) (x:Str×Str):a9p (l++[x])=a9p l++[.string (S x.1),.string (S x.2)]:=by simp [a9p]
def a4n (B:Nat) (w:World) (v:Value) (l:List (Str×Str)):Prop:=w.ownsRow B 86 2 v l.length (a9p l)
theorem c8w:(Tryz.prog.info? 86).map (λi=>(i.zero,i.size,i.bytes))=some (some (.agg #[.string ⟨#[]⟩,.string ⟨#[]⟩]),2,32):=by kernel_rfl
def d9d (s:Str) (w:World) (e:Ending) (w':World):Prop:=∃v,e=.returned (.tuple #[v,.int .i64 (P.a1i s).2])/\a4n w.heap.size w' v (P.a1i s).1/\Bl w w'
theorem b1i {w:World} {l:List (Str×Str)} (h:a4n B w v l):∃a cap,v=.slice a l.length cap:=by
 exact zq59
theorem c9n {w w1 w2:World} {v':Value} {l:List (Str×Str)} {x:Str×Str} {o:Obj} (hsz:w.heap.size<=w1.heap.size) (hown:a4n w.heap.size w1 v l) (hb:Bl w w1)
 (h:w2.ownsRow w.heap.size 86 2 v' (l.length+1) (a9p l++[.string (S x.1),.string (S x.2)])) (hg:(w1.alloc o).grownBy w2 v.ownBlock) :
 a4n w.heap.size w2 v' (l++[x])/\Bl w w2:=by
 refine⟨?_,(hb.alloc hsz _).grown hg (by simp;omega) (λk hk=>(World.ownsRow.lt hown k hk).1)⟩
 unfold a4n;rw [c3j,List.length_append];exact h
theorem a2a {w w':World} {size:Nat} {xs:List Value} (h:w.ownsRow B e size v n xs) (hb:Below C w w') (hC:w.heap.size<=C):w'.ownsRow B e size v n xs:=
 h.kept (row:=none) ⟨hb.os,hb.tape,hb.output,hb.size,λk hk _=>hb.block k oZ⟩ (by cases v.ownBlock<;>simp)
theorem c5z (s:Str) (w:World) (hs:s.length<=2^31) :
 Cz 125 #[.string (S s)] w (d9d s w):=by
 obtain⟨i0,hi,hz0,hz1,hz2⟩:=info_parts c8w
 go_enter func125,ntmps125
 go_wp2
 go_loopw [4,5] (λv i wr=>∃(out:List (Str×Str)) (a:Nat),a<=s.length/\i=.int .i64 a/\out.length<=60/\P.run s (60-out.length) (out,a)=P.a1i s/\a4n w.heap.size wr v out/\Bl w wr)
  (λ_ i _=>s.length-(intOf i).toNat)
 case atStart=>exact⟨[],0,Nat.zero_le _,rfl,Nat.zero_le _,rfl,World.ownsRow_made _ _ _ lZ dZ (by rfl),bZ.alloc lZ _⟩
 case round=>
  obtain⟨out,a,ha,rfl,ho,hrun,hown,hbel⟩:=hrel;obtain⟨ad,cp,rfl⟩:=b1i hown;have HRUN:=qh hrun;clear hrun;have HOWN:=qh hown;clear hown;have HBEL:=qh hbel;clear hbel;have hsz:=HBEL.o.size
  by_cases h1:a<s.length
  .by_cases h2:out.length<60
   .obtain⟨rest,hrest⟩:∃rest,rest=s.drop a:=⟨_,rfl⟩;have hrl:rest.length+a=s.length:=by rw [hrest];simp;omega
    have hhl:=P.b2a 10 rest;have HREST:=qh hrest;clear hrest
    by_cases h3:2<=((P.split 10 rest).length:Int)
    .cases h4:(P.a0z out.length (P.head 10 rest)).2.2
     .have HST:=qh (P.b5q (P.b7h (st:=(out,a)) (s:=s) (.inr (by rw [<-HREST.o];exact h4))) (60-out.length));exact zq27
     .have hht:=P.e4t 10 rest oZ;have HST:=qh (P.e1c (P.d8c (st:=(out,a)) (s:=s) h1 h2 (by rw [<-HREST.o];omega) (by rw [<-HREST.o];exact h4)) (59-out.length))
      go_wp2_with fail
      rw [<-HREST.o]
      go_wp2_with (first|(go_at_call 66;refine (b2i _ _ oZ).mono ?_;rintro e w1 ⟨v,rfl,hown1,hb1⟩;obtain⟨g,cap,rfl,hg,hgl,hcell,hl1⟩:=a8h hown1;clear hown1;have hz1':=hb1.size;have HB1:=qh hb1;clear hb1)|(go_at_call 198;refine (d3h _ _ _ oZ oZ oZ).mono ?_;rintro e w2 ⟨rfl,hb2⟩;rw [Int.toNat_natCast];obtain⟨hcc2,hff2⟩:=a6a hb2;have hz2':=hb2.size;have HB2:=qh hb2;clear hb2)|(at_builtin;refine wpList_append_own _ rfl _ _ 82 rfl w.heap.size 86 i0 (.agg #[.string ⟨#[]⟩,.string ⟨#[]⟩]) 2 32 underlying82 hi hz0 hz1 hz2 rfl dZ _ _ _ rfl (((a2a (a2a HOWN.o HB1.o lZ) HB2.o lZ).alloc _).alloc _) ⟨w2.heap.size+1,0,none⟩ 1 1 [.string (S (P.a0z out.length (P.head 10 rest)).1),.string (S (P.a0z out.length (P.head 10 rest)).2.1)] rfl rfl ?c1 ?c2 ?c3 ?c4 ?c5 ?_))
      case c1=>intro j u hj;match j,hj with|0,hj=>(simp at hj;subst hj;simp [Addr.add])|1,hj=>(simp at hj;subst hj;simp [Addr.add])
      case c2=>intro u hu;simp at hu;rcases hu with rfl|rfl<;>rfl
      case c3=>unfold maxLen;omega
      case c4=>omega
      case c5=>simp;omega
      intro v' w3 hown' hgrow _;have hcw2:w2.cell? ⟨g,0,none⟩=some (.string (S (P.head 10 rest))):=(hcc2 g 0 hgl).trans hcell;have hc3:w3.cell? ⟨g,0,none⟩=some (.string (S (P.head 10 rest))):=hgrow.cell (a6s (a6s hcw2 _) _) (by intro e;have:=(World.ownsRow.lt HOWN.o g e.symm).2;omega);have R:=qh (c9n (x:=((P.a0z out.length (P.head 10 rest)).1,(P.a0z out.length (P.head 10 rest)).2.1)) (w1:=w2.alloc _) (by simp;omega) ((a2a (a2a HOWN.o HB1.o lZ) HB2.o lZ).alloc _) (((HBEL.o.trans (HB1.o.mono hsz)).trans (HB2.o.mono oZ)).alloc oZ _) hown' hgrow);clear hown' hgrow HOWN HBEL HB1 HB2 hcell hcw2 hcc2 hff2;go_wp2
      go_roundw
      case rel=>exact⟨out++[((P.a0z out.length (P.head 10 rest)).1,(P.a0z out.length (P.head 10 rest)).2.1)],a+(P.head 10 rest).length+1,by omega,by go_num,by simp;omega,by rw [<-HRUN.o,show 60-out.length=59-out.length+1 by omega,HST.o,<-HREST.o,List.length_append,List.length_cons,List.length_nil,show 60-(out.length+(0+1))=59-out.length by omega],R.o.1,R.o.2⟩
      case measure=>exact zq
    .have HST:=qh (P.b5q (P.b7h (st:=(out,a)) (s:=s) (.inl (by rw [<-HREST.o];omega))) (60-out.length));exact zq27
   .have HST:=qh (P.b5q (P.step_end (st:=(out,a)) (s:=s) (.inr h2)) (60-out.length));exact zq162
  .have HST:=qh (P.b5q (P.step_end (st:=(out,a)) (s:=s) (.inl h1)) (60-out.length));exact zq162
abbrev logV (d p:Str) (n:Int):Value:=.agg #[.string (S d),.string (S p),.int .i64 n]
theorem b0u (d p:Str) (n:Int) (w:World) (hd:d.length<=2^20) (hp:p.length<=2^20) :
 Cz 58 #[logV d p n] w λe w'=>e=.returned (.bool (P.a0j d p n))/\Bl w w':=by
 by_cases h1:(d.length:Int)+p.length<=30000
 .have hd1:decide ((d.length:Int)+p.length<=30000)=true:=decide_eq_true h1;have HD1:=qh hd1;clear hd1
  cases h2:(((P.a1i (d++p)).2:Int)==(d.length:Int)+p.length)<;>cases h3:(((P.a1i d).2:Int)==(d.length:Int))<;>cases h4:(((P.a1i (d++p)).1.length:Int)==n)
  all_goals
   have HF:=qh (show P.a0j d p n=_ by unfold P.a0j;rw [HD1.o,h2,h3,h4])
   go_enter func58,ntmps58
   go_wp2_with fail
   refine (c5z _ _ (by simp;omega)).mono ?_
   rintro e w1 ⟨v,rfl,hown,hb⟩
   obtain⟨ad,cp,rfl⟩:=b1i hown
   obtain⟨hcc,hff⟩:=a6a hb
   have hz:=c5a hb
   have HB:=qh hb
   clear hown hb
   go_wp2_with fail
   refine (c5z _ _ oZ).mono ?_
   rintro e w2 ⟨v2,rfl,hown2,hb2⟩
   obtain⟨ad2,cp2,rfl⟩:=b1i hown2
   obtain⟨hcc2,hff2⟩:=a6a hb2
   have HB2:=qh hb2
   clear hown2 hb2
   go_wp2
   go_ret
   exact⟨by rw [HF.o];rfl,((bZ.alloc lZ _).trans (HB.o.mono sZ)).trans (HB2.o.mono oZ)⟩
 .have HF:=qh (show P.a0j d p n=false by unfold P.a0j;rw [decide_eq_false h1];rfl)
  go_enter func58,ntmps58
  go_wp2;go_ret;exact⟨by rw [HF.o];rfl,bZ.alloc lZ _⟩
theorem c4z (d p:Str) (n:Int) (w:World) (hd:d.length<=2^20) (hp:p.length<=2^20) :
 Cz 256 #[logV d p n] w λe w'=>e=.returned (.tuple #[logV (P.a6k d p n).1 [] (P.a6k d p n).2.1,.bool (P.a6k d p n).2.2])/\Bl w w':=by
 cases h1:P.a0j d p n
 .have HF:=qh (show P.a6k d p n=([],0,false) by unfold P.a6k;rw [h1];rfl);go_enter func256,ntmps256;go_wp2_with fail;refine zm80 ?_;rintro e w1 ⟨rfl,hb⟩;obtain⟨hcc,hff⟩:=a6a hb;rw [h1];go_wp2;refine bodyPost_ret (v:=.tuple #[logV [] [] 0,.bool false]) (by simp [results,results256,go_sem,hcc]) rfl ⟨by rw [HF.o],?_⟩;exact zq145
 .have HF:=qh (show P.a6k d p n=(d++p,n,true) by unfold P.a6k;rw [h1];rfl);go_enter func256,ntmps256;go_wp2_with fail;refine zm80 ?_;rintro e w1 ⟨rfl,hb⟩;obtain⟨hcc,hff⟩:=a6a hb;rw [h1];go_wp2;refine bodyPost_ret (v:=.tuple #[logV (d++p) [] n,.bool true]) (by simp [results,results256,go_sem,hcc]) rfl ⟨by rw [HF.o],?_⟩;exact zq145
theorem b9t (l:Str) (w:World):∃cap w',(convert 9 22 (.string (S l))).run Tryz.prog w=.ok (.slice (some ⟨w.heap.size,0,none⟩) l.length cap) w' /\
 (∀j (h:j<l.length),w'.cell? ⟨w.heap.size,j,none⟩=some (.int .u8 l[j].toNat))/\(∀j,j<l.length->w'.frozen? ⟨w.heap.size,j,none⟩=false)/\Bl w w'/\w.heap.size<w'.heap.size:=by
 have h:=run_bytes_of_string (P:=Tryz.prog) w 9 22 5 (S l) underlying9 underlying22 underlying5
 rw [S_size]at h
 generalize hc:grownCap w l.length 0 5=cap at h
 have hh:(w.drew.alloc (.cells (bytesRow (S l) cap) 5 ((bytesRow (S l) cap).size,(bytesRow (S l) cap).size+1))).heap[w.heap.size]?=some (.cells (bytesRow (S l) cap) 5 ((bytesRow (S l) cap).size,(bytesRow (S l) cap).size+1)):=heap_alloc_new w.drew _
 have hsz:l.length<=(bytesRow (S l) cap).size:=by simp [bytesRow,S]
 refine⟨cap,_,h,?_,?_,?_,?_⟩
 .intro j hj;simp only [World.cell?,hh];have hj':j<(S l).data.size:=by simpa [S] using hj
  have e:(bytesRow (S l) cap)[j]?=some (.int .u8 ((S l).data[j].toNat:Int)):=bytesRow_at (S l) cap j hj';rw [if_neg sZ];rw [e];simp [S]
 .intro j hj;simp only [World.frozen?,hh];simp;omega
 .exact bZ.drew.alloc lZ _
 .show w.heap.size<(w.heap.push _).size;simp
theorem u8_neg (b:UInt8):((255-b:UInt8).toNat:Int)=255-(b.toNat:Int):=by
 have h:=b.toNat_lt
 have h2:(255-b:UInt8).toNat=255-b.toNat:=by
  rw [UInt8.toNat_sub_of_le]
  .rfl
  .rw [UInt8.le_iff_toNat_le];show b.toNat<=255;omega
 rw [h2];omega
theorem c0k (s:Str) (c:UInt8) (w:World) (hs:s.length<=2^31) (hE:Env w) :
 Cz 69 #[.string (S s),.string ⟨#[c]⟩] w λe w'=>e=.returned (.tuple #[.string (S (Lib.cut s [c]).1),.string (S (Lib.cut s [c]).2.1),.bool (Lib.cut s [c]).2.2])/\∃n,w'=w.drewN n:=e3b s [c] w hs hE
def e3x (k:Nat) (s:Str) (w:World) (e:Ending) (w':World):Prop:=
 e=.returned (.tuple #[.agg #[.string (S (P.decode k s).1.1),.string (S (P.decode k s).1.2)],.int .i64 (P.decode k s).2.1,.bool (P.decode k s).2.2])/\Bl w w'
theorem decode (k:Nat) (s:Str) (w:World) (_:k<2^40) (hs:s.length<=2^28) (hE:Env w) :
 Cz 148 #[.int .i64 k,.string (S s)] w (e3x k s w):=by
 have HE:=qh hE;clear hE
 have hl1:=(P.a9f s [10]).1
 cases h1:(Lib.cut s [10]).2.2
 .have HF:=qh (show P.decode k s=(([],[]),0,false) by unfold P.decode;rw [h1];rfl)
  go_enter func148,ntmps148
  go_wp2_with fail
  refine (c0k _ 10 _ oZ (HE.o.alloc _)).mono ?_;rintro e w1 ⟨rfl,n1,rfl⟩;rw [h1];exact zq104
 .obtain⟨line,hline⟩:∃line,line=(Lib.cut s [10]).1:=⟨_,rfl⟩;rw [<-hline]at hl1
  by_cases h2:(line.length:Int)<=4000
  .obtain⟨tt,htt⟩:∃tt,tt=(Lib.cut line [35]).1:=⟨_,rfl⟩;obtain⟨both,hboth⟩:∃both,both=(Lib.cut tt [32]).2.1:=⟨_,rfl⟩;obtain⟨c,hc⟩:∃c,c=(Lib.cut both [62]).1:=⟨_,rfl⟩;obtain⟨r,hr⟩:∃r,r=(Lib.cut both [62]).2.1:=⟨_,rfl⟩;have hl2:tt.length<=line.length:=by rw [htt];exact (P.a9f _ _).1
   have hl3:both.length<=tt.length:=by rw [hboth];exact (P.a9f _ _).2
   have hl4:c.length<=both.length:=by rw [hc];exact (P.a9f _ _).1
   have hl5:r.length<=both.length:=by rw [hr];exact (P.a9f _ _).2
   have hF:P.decode k s=if ((P.encode k c r).2&&((P.encode k c r).1==line++[10])) then ((c,r),line.length+1,true) else (([],[]),0,false):=by
    unfold P.decode;simp only [<-hline,<-htt,<-hboth,<-hc,<-hr,h1,decide_eq_true h2,Bool.true_and]
   have HF0:=qh hF;clear hF;have HLINE:=qh hline;clear hline;have HTT:=qh htt;clear htt;have HBOTH:=qh hboth;clear hboth;have HC:=qh hc;clear hc;have HR:=qh hr;clear hr
   cases h3:(P.encode k c r).2<;>cases h4:((P.encode k c r).1==line++[10])
   all_goals
    have HF:=qh (show P.decode k s=_ by rw [HF0.o,h3,h4])
    go_enter func148,ntmps148
    go_wp2_with fail
    refine (c0k _ 10 _ oZ (HE.o.alloc _)).mono ?_
    rintro e w1 ⟨rfl,n1,rfl⟩
    rw [h1,<-HLINE.o]
    go_wp2_with fail
    refine (c0k _ 35 _ oZ ((HE.o.alloc _).drewN _)).mono ?_
    rintro e w1 ⟨rfl,n2,rfl⟩
    rw [<-HTT.o]
    go_wp2_with fail
    refine (c0k _ 32 _ oZ ((HE.o.alloc _).drewN _)).mono ?_
    rintro e w1 ⟨rfl,n3,rfl⟩
    rw [<-HBOTH.o]
    go_wp2_with fail
    refine (c0k _ 62 _ oZ ((HE.o.alloc _).drewN _)).mono ?_
    rintro e w1 ⟨rfl,n4,rfl⟩
    rw [<-HC.o,<-HR.o]
    go_wp2_with fail
    refine (b5d _ _ _ _ oZ oZ (((HE.o.alloc _).drewN _).alloc _)).mono ?_
    rintro e w1 ⟨rfl,hb⟩
    rw [h3]
    obtain⟨hcc,hff⟩:=a6a hb
    have HB:=qh hb;clear hb
    have hk0:w1.cell? ⟨w.heap.size,0,none⟩=some (.string (S [])):=by rw [hcc _ _ (by simp;omega)];go_simp
    have hk1:w1.cell? ⟨w.heap.size,1,none⟩=some (.string (S [])):=by rw [hcc _ _ (by simp;omega)];go_simp
    go_wp2
    first
     |refine bodyPost_ret (v:=.tuple #[.agg #[.string (S []),.string (S [])],.int .i64 0,.bool false]) (by simp [results,results148,go_sem,hk0,hk1]) rfl ⟨by rw [HF.o];rfl,?_⟩
     |refine bodyPost_ret (v:=.tuple #[.agg #[.string (S c),.string (S r)],.int .i64 ((line.length:Int)+1),.bool true]) (by simp [results,results148,go_sem,hk0,hk1]) rfl ⟨by rw [HF.o];rfl,?_⟩
    exact ((((below_drewN (bZ.alloc lZ _) _).alloc sZ _).trans (HB.o.mono (by simp;omega))).setCell sZ _).setCell sZ _
  .have HF:=qh (show P.decode k s=(([],[]),0,false) by unfold P.decode;simp only [<-hline,h1,decide_eq_false h2];rfl);have h2':=Int.not_le.1 h2;have HLINE:=qh hline;clear hline h2
   go_enter func148,ntmps148
   go_wp2_with fail
   refine (c0k _ 10 _ oZ (HE.o.alloc _)).mono ?_;rintro e w1 ⟨rfl,n1,rfl⟩;rw [h1,<-HLINE.o];exact zq104
def a5x (l:List Int):List Value:=l.map (Value.int .i64)
def a4b (B:Nat) (w:World) (v:Value) (l:List Int):Prop:=w.ownsRow B 3 1 v l.length (a5x l)
theorem a2i:(Tryz.prog.info? 3).map (λi=>(i.zero,i.size,i.bytes))=some (some (.int .i64 0),1,8):=by kernel_rfl
theorem d0o {w:World} (h:a4b B w v l):∃a cap,v=.slice a l.length cap:=by
 exact zq59
theorem c3p {w:World} {f:TypeId} {t:Nat} {u:Value} {m:Nat} {xs ys:List Value} (h:w.ownsRow B e s v n xs) (k:w.ownsRow C f t u m ys) (hne:e≠f):v.ownBlock=none\/v.ownBlock≠u.ownBlock:=by
 rcases h.2 with⟨rfl,_⟩|⟨g,cap,cur,rfl,_,hg,_⟩
 .exact .inl rfl
 .refine .inr (λeq=>?_)
  rcases k.2 with⟨rfl,_⟩|⟨g',cap',cur',rfl,_,hg',_⟩
  .cases eq
  .simp [Value.ownBlock]at eq;subst eq;rw [hg]at hg';injection hg' with hg';injection hg' with _ h2 _;exact hne h2
def c5u (s:Str) (w:World) (e:Ending) (w':World):Prop:=∃v u,e=.returned (.tuple #[v,u])/\a4n w.heap.size w' v (P.readAll s).1/\a4b w.heap.size w' u (P.readAll s).2.1/\Bl w w'
theorem read (s:Str) (w:World) (hs:s.length<=2^28) (hE:Env w) :
 Cz 75 #[.string (S s)] w (c5u s w):=by
 obtain⟨i0,hi,hz0,hz1,hz2⟩:=info_parts c8w
 obtain⟨j0,ji,jz0,jz1,jz2⟩:=info_parts a2i
 have HE:=qh hE;clear hE
 go_enter func75,ntmps75
 go_wp2
 go_loopw [4,5,6] (λv u i wr=>∃(out:List (Str×Str)) (ends:List Int) (a:Nat),a<=s.length/\i=.int .i64 a/\out.length<=60/\ends.length=out.length/\P.runI s (60-out.length) (out,ends,a)=P.readAll s/\a4n w.heap.size wr v out/\a4b w.heap.size wr u ends/\Bl w wr)
  (λ_ _ i _=>s.length-(intOf i).toNat)
 case atStart=>exact⟨[],[],0,Nat.zero_le _,rfl,Nat.zero_le _,rfl,rfl,(World.ownsRow_made _ _ _ lZ dZ (by rfl)).alloc _,by unfold a4b;have h:=World.ownsRow_made (base:=w.heap.size) (e:=3) (size:=1) (w.alloc (.cells #[] 86)) #[] 0 sZ dZ (by rfl);simpa [a5x] using h,(bZ.alloc lZ _).alloc sZ _⟩
 case round=>
  obtain⟨out,ends,a,ha,rfl,ho,hel,hrun,hown,howi,hbel⟩:=hrel;obtain⟨ad,cp,rfl⟩:=b1i hown;obtain⟨ad2,cp2,rfl⟩:=d0o howi;have HEL:=qh hel;clear hel;have HRUN:=qh hrun;clear hrun;have HOWN:=qh hown;clear hown;have HOWI:=qh howi;clear howi;have HBEL:=qh hbel;clear hbel;have hsz:=HBEL.o.size;obtain⟨rest,hrest⟩:∃rest,rest=s.drop a:=⟨_,rfl⟩;have hrl:rest.length+a=s.length:=by rw [hrest];simp;omega
  have HREST:=qh hrest;clear hrest
  go_wp2_with fail
  rw [<-HREST.o];refine (decode _ _ _ oZ oZ (HE.o.below HBEL.o HE.o.size)).mono ?_;rintro e w1 ⟨rfl,hb⟩;obtain⟨hcc,hff⟩:=a6a hb;have hz1':=hb.size;have HB:=qh hb;clear hb
  cases h4:(P.decode out.length rest).2.2
  .have HST:=qh (P.c3f (P.a7a (st:=(out,ends,a)) (s:=s) (by rw [<-HREST.o];exact h4)) (60-out.length));go_wp2;go_ret2;exact⟨.slice ad out.length cp,.slice ad2 ends.length cp2,rfl,by rw [<-HRUN.o,HST.o];exact (a2a HOWN.o HB.o lZ).alloc _,by rw [<-HRUN.o,HST.o];exact (a2a HOWI.o HB.o lZ).alloc _,(HBEL.o.trans (HB.o.mono hsz)).alloc oZ _⟩
  .have hok:=P.a5p _ _ h4;have HST:=qh (P.c2k (P.b2q (st:=(out,ends,a)) (s:=s) (by rw [<-HREST.o];exact h4)) (59-out.length));obtain⟨c,hc⟩:∃c,c=(P.decode out.length rest).1.1:=⟨_,rfl⟩;obtain⟨r,hr⟩:∃r,r=(P.decode out.length rest).1.2:=⟨_,rfl⟩;obtain⟨n,hn⟩:∃n,n=(P.decode out.length rest).2.1:=⟨_,rfl⟩;rw [<-hc,<-hr,<-hn];have hn1:1<=n:=by rw [hn];exact hok.2.1
   have hn2:n<=rest.length:=by rw [hn];exact hok.2.2
   have ho9:=hok.1;have HC:=qh hc;have HR:=qh hr;have HN:=qh hn;clear hc hr hn hok h4
   go_wp2_with (at_builtin;refine wpList_append_own _ rfl (.tmp 29) (.tmp 31) 82 rfl w.heap.size 86 i0 (.agg #[.string ⟨#[]⟩,.string ⟨#[]⟩]) 2 32 underlying82 hi hz0 hz1 hz2 rfl dZ _ _ _ rfl (((a2a HOWN.o HB.o lZ).alloc _).alloc _) ⟨w1.heap.size+1,0,none⟩ 1 1 [.string (S c),.string (S r)] rfl rfl ?c1 ?c2 ?c3 ?c4 ?c5 ?_)
   case c1=>intro j u hj;match j,hj with|0,hj=>(simp at hj;subst hj;simp [Addr.add])|1,hj=>(simp at hj;subst hj;simp [Addr.add])
   case c2=>intro u hu;simp at hu;rcases hu with rfl|rfl<;>rfl
   case c3=>unfold maxLen;omega
   case c4=>omega
   case c5=>simp;omega
   intro v' w2 hown' hgrow _;have R:=qh (c9n (x:=(c,r)) (w1:=w1.alloc _) (by simp;omega) ((a2a HOWN.o HB.o lZ).alloc _) ((HBEL.o.trans (HB.o.mono hsz)).alloc oZ _) hown' hgrow);have hI:a4b w.heap.size w2 (.slice ad2 ends.length cp2) ends:=World.ownsRow.kept (((a2a HOWI.o HB.o lZ).alloc _).alloc _) hgrow (c3p (a2a HOWI.o HB.o lZ) (a2a HOWN.o HB.o lZ) dZ);have HI:=qh hI;have hw2:=R.o.2.size;clear hown' hgrow HOWN HOWI HBEL HB hI hcc hff;obtain⟨ad3,cp3,rfl⟩:=b1i R.o.1
   go_wp2_with (at_builtin;refine wpList_append_own _ rfl (.tmp 33) (.tmp 35) 33 rfl w.heap.size 3 j0 (.int .i64 0) 1 8 underlying33 ji jz0 jz1 jz2 rfl dZ _ _ _ rfl (World.ownsRow.alloc HI.o _) ⟨w2.heap.size,0,none⟩ 1 1 [.int .i64 ((a:Int)+n)] rfl rfl ?d1 ?d2 ?d3 ?d4 ?d5 ?_)
   case d1=>intro j u hj;match j,hj with|0,hj=>(simp at hj;subst hj;simp [Addr.add])
   case d2=>intro u hu;simp at hu;subst hu;rfl
   case d3=>have:=HEL.o;unfold maxLen;omega
   case d4=>have:=HEL.o;omega
   case d5=>simp;omega
   intro v'' w3 howi' hgrow2 _;have hO:a4n w.heap.size w3 (.slice ad3 (out++[(c,r)]).length cp3) (out++[(c,r)]):=World.ownsRow.kept (World.ownsRow.alloc R.o.1 _) hgrow2 (c3p R.o.1 HI.o dZ);have hB:Bl w w3:=(R.o.2.alloc hw2 _).grown hgrow2 (by simp;omega) (λk hk=>(World.ownsRow.lt HI.o k hk).1);have hI2:a4b w.heap.size w3 v'' (ends++[(a:Int)+n]):=by unfold a4b;rw [List.length_append];simpa [a5x] using howi'
   have HO:=qh hO;have HB:=qh hB;have HI2:=qh hI2;clear hO hB hI2 hgrow2 howi' R HI;go_wp2
   go_roundw
   case rel=>exact⟨out++[(c,r)],ends++[(a:Int)+n],a+n,by omega,by go_num,by simp;omega,by simp [HEL.o],by
    rw [<-HRUN.o,show 60-out.length=59-out.length+1 by omega,HST.o,<-HREST.o,<-HN.o,List.length_append,List.length_cons,List.length_nil,show 60-(out.length+(0+1))=59-out.length by omega];rw [show ((c,r):Str×Str)=(P.decode out.length rest).1 by rw [HC.o,HR.o]];rfl,(by have h:=HO.o;rwa [show (out++[(c,r)]).length=out.length+1 by simp]at h),HI2.o,HB.o⟩
   case measure=>exact zq
section
variable {P:Program} (w:World)
def c5m (w:World) (size:Nat) (u:Value) (m:Nat) (news:List Value):Prop:=
 news.length=m*size/\(∀x∈news,x.oneCell'=true)/\((u=.slice none 0 0/\m=0)\/∃ad c,u=.slice (some ad) m c/\∀j x,news[j]?=some x->w.cell? (ad.add j)=some x)
theorem b0q (base:Nat) (t ty e:TypeId) (i:TypeInfo) (z:Value) (size bytes:Nat) (ht:P.underlying t=some (.slice e)) (hi:P.info? e=some i) (hz:i.zero=some z)
 (hsize:i.size=size) (hby:i.bytes=bytes) (hzs:z.cells.size=size) (hsz:0<size)
 (v:Value) (n:Nat) (xs:List Value) (hown:w.ownsRow base e size v n xs)
 (u:Value) (m:Nat) (news:List Value) (hsrc:c5m w size u m news)
 (h63:n+m<=maxLen) (hbytes:(n+m)*bytes<=140737488355328) (hbase:base<=w.heap.size) :
 ∃v' w',(Builtin.append_ #[t,t] ty #[v,u]).run P w=.ok v' w'/\w'.ownsRow base e size v' (n+m) (xs++news)/\w.grownBy w' v.ownBlock /\
  (v'=.slice none 0 0↔v=.slice none 0 0/\m=0):=by
 obtain⟨hl,h1,⟨rfl,rfl⟩|⟨ad,c,rfl,hnews⟩⟩:=hsrc
 .exact zq57
 .exact zq167
theorem a0w {w:World} {ops:Array Oper} {rest:List Oper} {o:Oper} {a:Act} {Q:Exit->Act->World->Prop} (hgd:o.guard=none) (s x:Operand) (t:TypeId)
 (ho:o.op=.call { callee:=.builtin .append,args:=#[s,x],argTypes:=#[t,t] })
 (base:Nat) (e:TypeId) (i:TypeInfo) (z:Value) (size bytes:Nat) (ht:P.underlying t=some (.slice e)) (hi:P.info? e=some i) (hz:i.zero=some z)
 (hsize:i.size=size) (hby:i.bytes=bytes) (hzs:z.cells.size=size) (hsz:0<size)
 (v:Value) (n:Nat) (xs:List Value) (hs:a.eval s=v) (hown:w.ownsRow base e size v n xs)
 (u:Value) (m:Nat) (news:List Value) (hx:a.eval x=u) (hsrc:c5m w size u m news)
 (h63:n+m<=maxLen) (hbytes:(n+m)*bytes<=140737488355328) (hbase:base<=w.heap.size)
 (h:∀v' w',w'.ownsRow base e size v' (n+m) (xs++news)->w.grownBy w' v.ownBlock->(v'=.slice none 0 0↔v=.slice none 0 0/\m=0)->wpList P ops Q rest (a.put o.dst v') w'):wpList P ops Q (o::rest) a w:=
 wpList_plain hgd λ_ hK=>by
  exact zq88
end
theorem d3s (w:World) (B:Nat) (hB:B<=w.heap.size) (x:Int):a4b B (w.alloc (.cells #[.int .i64 x] 3)) (.slice (some ⟨w.heap.size,0,none⟩) 1 1) [x]:=
 ⟨by simp [a5x],.inr ⟨w.heap.size,1,_,rfl,hB,heap_alloc_new w _,Nat.le_refl _,by decide,by simp,by simp [a5x]⟩⟩
theorem c2c {w:World} (h:a4b B w v l) (hl:l≠[]):∃g cap,v=.slice (some ⟨g,0,none⟩) l.length cap/\B<=g/\g<w.heap.size/\∀j (hj:j<l.length),w.cell? ⟨g,j,none⟩=some (.int .i64 l[j]):=by
 rcases h.2 with⟨_,h0⟩|⟨g,cap,cur,hv,hg,hh,_⟩
 .exact absurd (List.eq_nil_of_length_eq_zero h0) hl
 .have hob:v.ownBlock=some g:=by rw [hv];rfl
  refine⟨g,cap,hv,hg,(World.ownsRow.lt h g hob).2,λj hj=>?_⟩;have hc:=World.ownsRow.cells h hob j (.int .i64 l[j]) (by simp [a5x,List.getElem?_eq_getElem hj])
  rwa [add0]at hc
theorem c8s {w:World} (h:a4b B w v l):c5m w 1 v l.length (a5x l):=by
 refine⟨by simp [a5x],by intro x hx;simp [a5x]at hx;obtain⟨y,_,rfl⟩:=hx;rfl,?_⟩
 rcases h.2 with⟨hv,h0⟩|⟨g,cap,cur,hv,hg,hh,_⟩
 .exact .inl ⟨hv,h0⟩
 .have hob:v.ownBlock=some g:=by rw [hv];rfl
  exact .inr ⟨⟨g,0,none⟩,cap,hv,World.ownsRow.cells h hob⟩
theorem a2g {w:World} {xs:List Value} (h:w.ownsRow B e s v n xs) (hC:C<=B):w.ownsRow C e s v n xs:=by
 refine⟨h.1,?_⟩
 rcases h.2 with h2|⟨g,cap,cur,hv,hg,r⟩
 .exact .inl h2
 .exact .inr ⟨g,cap,cur,hv,Nat.le_trans hC hg,r⟩
def c9b (d p:Str) (n:Int) (w:World) (e:Ending) (w':World):Prop:=∃v,e=.returned (.tuple #[v,.bool (P.a1t d p n)])/\a4n w.heap.size w' v (P.readAll (d++p)).1/\Bl w w'
theorem records (d p:Str) (n:Int) (w:World) (hd:d.length<=2^20) (hp:p.length<=2^20) (hE:Env w) :
 Cz 56 #[logV d p n] w (c9b d p n w):=by
 obtain⟨j0,ji,jz0,jz1,jz2⟩:=info_parts a2i
 have HE:=qh hE;clear hE
 go_enter func56,ntmps56
 go_wp2_with fail
 refine (read _ _ (by simp;omega) (HE.o.alloc _)).mono ?_
 rintro e w1 ⟨v,u,rfl,hown,howi,hb⟩
 obtain⟨ad,cp,rfl⟩:=b1i hown
 obtain⟨hcc,hff⟩:=a6a hb
 have hz:=c5a hb
 have hk0:w1.cell? ⟨w.heap.size,0,none⟩=some (.string (S d)):=by rw [hcc _ _ sZ];go_simp
 have hk2:w1.cell? ⟨w.heap.size,2,none⟩=some (.int .i64 n):=by rw [hcc _ _ sZ];go_simp
 have HOWN:=qh hown;have HOWI:=qh howi;have HB:=qh hb
 clear hown howi hb hcc hff
 have hrl:=P.a4o (d++p)
 generalize hR:P.readAll (d++p)=R at *
 obtain⟨hrl1,hrl2⟩:=hrl
 have HRL2:=qh hrl2
 have hrl3:R.2.1.length<=60:=by omega
 clear hrl2
 have HRR:=qh hR;clear hR
 go_wp2_with (at_builtin;refine a0w rfl (.tmp 21) (.tmp 22) 33 rfl w.heap.size 3 j0 (.int .i64 0) 1 8 underlying33 ji jz0 jz1 jz2 rfl dZ _ _ _ rfl (d3s w1 w.heap.size (Nat.le_of_lt hz) 0) _ _ _ rfl (c8s (World.ownsRow.alloc HOWI.o _)) ?c3 ?c4 ?c5 ?_)
 case c3=>unfold maxLen;simp;omega
 case c4=>simp;omega
 case c5=>simp;omega
 intro v' w2 hown' hgrow _
 rw [show (Value.slice (some ⟨w1.heap.size,0,none⟩) 1 1).ownBlock=some w1.heap.size from rfl]at hgrow
 obtain⟨st,hst⟩:∃st:List Int,st=0::R.2.1:=⟨_,rfl⟩
 have hstl:st.length<=61:=by rw [hst];simp;omega
 have hstn:st≠[]:=by rw [hst];simp
 have hS:a4b w.heap.size w2 v' st:=by rw [hst];unfold a4b;rw [List.length_cons,Nat.add_comm];simpa [a5x] using hown'
 obtain⟨g,cp2,rfl,hg,hgl,hcell⟩:=c2c hS hstn
 have hk0':w2.cell? ⟨w.heap.size,0,none⟩=some (.string (S d)):=hgrow.cell (a6s hk0 _) (by show some w.heap.size≠some w1.heap.size;intro e;injection e with e;omega)
 have hk2':w2.cell? ⟨w.heap.size,2,none⟩=some (.int .i64 n):=hgrow.cell (a6s hk2 _) (by show some w.heap.size≠some w1.heap.size;intro e;injection e with e;omega)
 have hO:a4n w.heap.size w2 (.slice ad R.1.length cp) R.1:=World.ownsRow.kept (World.ownsRow.alloc (a2g HOWN.o sZ) _) hgrow (by
  cases hb:(Value.slice ad R.1.length cp).ownBlock with
  |none=>exact .inl rfl
  |some k=>exact .inr (by intro e;injection e with e;have:=(World.ownsRow.lt HOWN.o k hb).2;omega))
 refine zm92 ?_;intro hB;have HO:=qh hO;have HBB:=qh hB;have HST:=qh hst;have HCELL:=qh hcell;clear hO hB hst hcell hS HB HOWN HOWI hgrow hown' hk0 hk2 hrl1;go_wp2;go_loop [8,10,26] (λdr _ i=>∃k:Nat,k<=st.length/\i=.int .i64 k/\dr=.bool ((st.take k).any λx=>x==(d.length:Int))) (λ_ _ i=>st.length-(intOf i).toNat)
 case atStart=>exact⟨0,Nat.zero_le _,rfl,by simp⟩
 case round=>
  obtain⟨k,hk,rfl,rfl⟩:=hrel;generalize hg0:(st.take k).any (λx=>x==(d.length:Int))=dr at *;have HDR:=qh hg0;clear hg0
  by_cases hlt:k<st.length
  .have hck:=HCELL.o k hlt;have HSN:=qh (show (st.take (k+1)).any (λx=>x==(d.length:Int))=(dr||(st[k]==(d.length:Int))) by rw [a0g st k hlt,List.any_append,HDR.o];simp only [List.any_cons,List.any_nil,Bool.or_false])
   cases dr
   .exact zq176
   .exact zq176
  .have hkk:k=st.length:=by omega
   have HDR2:=qh (show st.any (λx=>x==(d.length:Int))=dr by rw [<-HDR.o,List.take_of_length_le oZ]);clear hkk;obtain⟨m,hm⟩:∃m,m=st.length-1:=⟨_,rfl⟩;have hm1:m<st.length:=by have:=List.length_pos_iff.2 hstn;omega
   have hcl:=HCELL.o m hm1;obtain⟨x,hx⟩:∃x,x=st[m]:=⟨_,rfl⟩;rw [<-hx]at hcl;have hxx:st[st.length-1]?.getD 0=x:=by rw [<-hm,List.getElem?_eq_getElem hm1,hx];rfl
   have hF:P.a1t d p n=(dr&&((x==(d.length:Int)+p.length)&&(n==(R.1.length:Int)))):=by
    unfold P.a1t P.a8t;rw [HRR.o,<-HST.o,HDR2.o,hxx];simp
   have HF0:=qh hF;have i1:IntKind.i64.wrap ((st.length:Int)-1)=(st.length:Int)-1:=IntWalk.i64_in _ oZ;have i2:0<=(st.length:Int)-1:=by omega
   have i3:((st.length:Int)-1).toNat=m:=by omega
   have i4:(st.length:Int)-1<(st.length:Int):=by omega
   clear hm hm1 hx hxx hF HCELL
   have finish:∀q b,P.a1t d p n=b->c9b d p n w (.returned (.tuple #[.slice ad R.1.length cp,.bool b])) (w2.drewN q):=by
    intro q b hb;refine⟨.slice ad R.1.length cp,by rw [hb],?_,?_⟩
    .rw [HRR.o];exact a2a HO.o (below_drewN (Below.refl w2.heap.size _) _) lZ
    .exact below_drewN HBB.o _
   have FIN:=qh finish;clear finish
   cases dr
   .have HF:=qh (show P.a1t d p n=false by rw [HF0.o];rfl)
    go_wp2_with fail
    go_quiet (fail)
    go_wp2;go_ret2;exact FIN.o _ _ HF.o
   .cases h5:(x==(d.length:Int)+p.length)
    .have HF:=qh (show P.a1t d p n=false by rw [HF0.o,h5];rfl)
     go_wp2_with fail
     go_quiet (fail)
     go_wp2;go_ret2;exact FIN.o _ _ HF.o
    .cases h6:(n==(R.1.length:Int))
     all_goals
      have HF:=qh (show P.a1t d p n=_ by rw [HF0.o,h5,h6])
      go_wp2_with fail
      go_quiet (fail)
      go_wp2
      go_ret2
      exact FIN.o _ _ HF.o
theorem a3t (d p:Str) (n:Int) (w:World) (hd:d.length<=2^20) (hp:p.length<=2^20) (hE:Env w) :
 Cz 73 #[logV d p n] w λe w'=>e=.returned (.bool (P.a1t d p n))/\Bl w w':=by
 have HE:=qh hE;clear hE
 go_enter func73,ntmps73
 go_wp2_with fail
 refine (records _ _ _ _ hd hp (HE.o.alloc _)).mono ?_
 rintro e w1 ⟨v,rfl,_,hb⟩
 go_wp2
 go_ret
 exact⟨rfl,(bZ.alloc lZ _).trans (hb.mono sZ)⟩
end Go.Proofs.YtggfdnopminemaaGreatDoor.L
namespace Go.Proofs.YtggfdnopminemaaGreatDoor
open Go.Proofs.Tryz
variable {n:Int} {b:Nat} {d p sc:Str} {u us x:Go.Value} {v v':Go.World}
namespace P
theorem a9x {d:Dic} {t:Tr} (h:trans d t=true):dic d=true:=by
 exact zq135
def sess (l:Dic) (st:List Int) (sc d p:Bs) (n:Int):Bool:=trans l (st,sc)&&a0j d p n
theorem e0t (l:Dic) (st:List Int) (sc d p:Bs) (n:Int):(dic l&&(trans l (st,sc)&&a0j d p n))=sess l st sc d p n:=by
 unfold sess
 cases h:trans l (st,sc) with
 |false=>simp
 |true=>rw [a9x h];simp
end P
open Go Go.RowKit
set_option maxHeartbeats 8000000
set_option maxRecDepth 100000
theorem b0y (u us:Value) (l:P.Dic) (st:List Int) (sc d p:Str) (n:Int) (w:World) (hu:EntR w u l) (hus:IntR w us st) (hm:Small l) (hd:d.length<=2^20) (hp:p.length<=2^20) (hE:L.Env w) :
 Cz 45 #[a1a u us sc d p n] w λe w'=>e=.returned (.bool (P.sess l st sc d p n))/\Bl w w':=by
 have hb0:=(Below.refl w.heap.size w).alloc lZ (a0d u us sc d p n)
 have HU:=qh (hu.below hb0);have HUS:=qh (hus.below hb0);have HX:=qh (SBox.new u us sc d p n w);have HE:=qh (hE.below hb0 hE.size);have HB:=qh hb0
 clear hb0 hE
 obtain⟨ad,cap,rfl,_,_⟩:=hu
 obtain⟨sd,sap,rfl,_,_⟩:=hus
 go_enter func45,ntmps45
 go_upto_region 1 with fail
 generalize w.alloc (a0d (.slice ad l.length cap) (.slice sd st.length sap) sc d p n)=v0 at *
 obtain⟨c0,c1,c2,c3,c4,c5,_⟩:=HX.o
 go_wp2_with fail
 refine (a2w _ _ l st sc _ HU.o HUS.o hm HE.o.dic).mono ?_
 rintro e w1 ⟨rfl,hb⟩
 have HX1:=qh (HX.o.below hb);have HE1:=qh (HE.o.below hb HE.o.size);have HB1:=bt HB hb
 have HP:Hq (P.sess l st sc d p n=(P.trans l (st,sc)&&P.a0j d p n)):=⟨rfl⟩
 clear hb c0 c1 c2 c3 c4 c5 HX HE HB HU HUS
 generalize P.trans l (st,sc)=q at *
 obtain⟨c0,c1,c2,c3,c4,c5,_⟩:=HX1.o
 cases q
 .go_wp2;go_ret;exact⟨by rw [HP.o];rfl,HB1.o⟩
 .go_wp2_with fail
  refine (L.a3t d p n _ hd hp HE1.o).mono ?_;rintro e w2 ⟨rfl,hb⟩;rw [P.a3y];have HB2:=bt HB1 hb;clear hb;go_wp2;go_ret;exact⟨by rw [HP.o];rfl,HB2.o⟩
theorem e2h (u us:Value) (l:P.Dic) (st:List Int) (sc d p:Str) (n:Int) (w:World) (hu:EntR w u l) (hus:IntR w us st) (hm:Small l) (hd:d.length<=2^20) (hp:p.length<=2^20) :
 Cz 93 #[a1a u us sc d p n] w λe w'=>e=.returned (.bool (P.sess l st sc d p n))/\Bl w w':=by
 have hb0:=(Below.refl w.heap.size w).alloc lZ (a0d u us sc d p n)
 have HU:=qh (hu.below hb0);have HUS:=qh (hus.below hb0);have HX:=qh (SBox.new u us sc d p n w);have HB:=qh hb0
 clear hb0
 have HP:=qh (P.e0t l st sc d p n)
 obtain⟨ad,cap,rfl,_,_⟩:=hu
 obtain⟨sd,sap,rfl,_,_⟩:=hus
 go_enter func93,ntmps93
 go_upto_region 1 with fail
 generalize w.alloc (a0d (.slice ad l.length cap) (.slice sd st.length sap) sc d p n)=v0 at *
 obtain⟨c0,c1,c2,c3,c4,c5,_⟩:=HX.o
 go_wp2_with fail
 refine (b7x _ l _ HU.o hm.texts).mono ?_
 rintro e w1 ⟨rfl,hb⟩
 have HX1:=qh (HX.o.below hb);have HB1:=bt HB hb;have HU1:=qh (HU.o.below hb);have HUS1:=qh (HUS.o.below hb)
 clear hb c0 c1 c2 c3 c4 c5 HX HB HU HUS
 generalize P.dic l=q at *
 obtain⟨c0,c1,c2,c3,c4,c5,_⟩:=HX1.o
 cases q
 .go_wp2;go_ret;exact⟨by rw [<-HP.o];rfl,HB1.o⟩
 .go_wp2_with fail
  refine (c6m _ _ l st sc _ HU1.o HUS1.o hm).mono ?_;rintro e w2 ⟨rfl,hb⟩;have HX2:=qh (HX1.o.below hb);have HB2:=bt HB1 hb;clear hb c0 c1 c2 c3 c4 c5 HX1 HB1 HU1 HUS1;generalize P.trans l (st,sc)=q at *;obtain⟨c0,c1,c2,c3,c4,c5,_⟩:=HX2.o
  cases q
  .go_wp2;go_ret;exact⟨by rw [<-HP.o];rfl,HB2.o⟩
  .go_wp2_with fail
   refine (L.b0u d p n _ hd hp).mono ?_;rintro e w3 ⟨rfl,hb⟩;have HB3:=bt HB2 hb;clear hb;go_wp2;go_ret;exact⟨by rw [<-HP.o];rfl,HB3.o⟩
def SOut (b:Nat) (u us:Value) (sc d p:Str) (n:Int) (v:World):Prop:=
 SBox b u us sc d p n v/\v.frozen? ⟨b,0,none⟩=false/\v.frozen? ⟨b,1,none⟩=false/\v.frozen? ⟨b,2,none⟩=false/\v.frozen? ⟨b,3,none⟩=false/\v.frozen? ⟨b,4,none⟩=false/\v.frozen? ⟨b,5,none⟩=false
theorem SOut.a0b {X:Blk} (h:SOut b u us sc d p n v) (hc:Chg X v v') (hX:¬X b):SOut b u us sc d p n v':=by
 obtain⟨h0,f0,f1,f2,f3,f4,f5⟩:=h;have hb:=h0.2.2.2.2.2.2;exact⟨h0.a0b hc hX,(hc.frozen (p:=⟨b,0,none⟩) hb hX).trans f0,(hc.frozen (p:=⟨b,1,none⟩) hb hX).trans f1,(hc.frozen (p:=⟨b,2,none⟩) hb hX).trans f2,(hc.frozen (p:=⟨b,3,none⟩) hb hX).trans f3,(hc.frozen (p:=⟨b,4,none⟩) hb hX).trans f4,(hc.frozen (p:=⟨b,5,none⟩) hb hX).trans f5⟩
theorem SOut.below (h:SOut b u us sc d p n v) (hb:Bl v v'):SOut b u us sc d p n v':=h.a0b (Below.chg hb λ_=>False) λh=>h
theorem SOut.new (u us:Value) (sc d p:Str) (n:Int) (v:World):SOut v.heap.size u us sc d p n (v.alloc (a0d u us sc d p n)):=by
 refine⟨SBox.new _ _ _ _ _ _ _,?_,?_,?_,?_,?_,?_⟩<;>go_simp
theorem SOut.set0 (h:SOut b u us sc d p n v):SOut b x us sc d p n (v.setCell ⟨b,0,none⟩ x):=by
 exact zq28
theorem SOut.set1 {r:Str} (h:SOut b u us sc d p n v):SOut b u x r d p n ((v.setCell ⟨b,1,none⟩ x).setCell ⟨b,2,none⟩ (.string (S r))):=by
 exact zq28
theorem SOut.set3 {d' p':Str} {n':Int} (h:SOut b u us sc d p n v):SOut b u us sc d' p' n' (((v.setCell ⟨b,3,none⟩ (.string (S d'))).setCell ⟨b,4,none⟩ (.string (S p'))).setCell ⟨b,5,none⟩ (.int .i64 n')):=by
 exact zq28
def d6j (l:P.Dic) (st:List Int) (sc d p:Str) (n:Int) (w:World) (e:Ending) (w':World):Prop:=
 ∃u us m,e=.returned (a1a u us sc d p n)/\Ents w' (Bet w.heap.size m) u l/\Ints w' (Bet m w'.heap.size) us st/\w.heap.size<=m/\m<=w'.heap.size/\Bl w w'
end Go.Proofs.YtggfdnopminemaaGreatDoor
