/- Walks: splitting. Rows. -/
import Derived.Test.YtggfdnopminemaaGreatDoorAtomE
set_option linter.all false
namespace Go.Proofs.YtggfdnopminemaaGreatDoor
open Go.Proofs.Tryz
variable {l:List Str} {B g n:Nat} {o:Go.Obj} {x:Str} {v v':Go.Value} {w w1 w2:Go.World}
section
open Go Go.RowKit
set_option maxHeartbeats 8000000
set_option maxRecDepth 100000
theorem b2f:(Tryz.prog.info? 9).map (λi=>(i.zero,i.size,i.bytes))=some (some (.string ⟨#[]⟩),1,16):=by kernel_rfl
theorem a0x.snoc (h:w.ownsRow B 9 1 v (l.length+1) (a3z l++[.string (S x)])):a0x B w v (l++[x]):=by
 unfold a0x;rw [List.length_append];simpa [a3z] using h
theorem b3j (hsz:w.heap.size<=w1.heap.size) (hown:a0x w.heap.size w1 v l) (hb:Bl w w1)
 (h:w2.ownsRow w.heap.size 9 1 v' (l.length+1) (a3z l++[.string (S x)])) (hg:(w1.alloc o).grownBy w2 v.ownBlock) :
 a0x w.heap.size w2 v' (l++[x])/\Bl w w2:=
 ⟨a0x.snoc h,(hb.alloc hsz _).grown hg (by simp;omega) (λk hk=>(World.ownsRow.lt hown k hk).1)⟩
theorem a4y (s:Str) (c:UInt8) (w:World) (hs:s.length<=2^40) :
 Cz 66 #[.string (S s),.int .u8 c.toNat] w (a3w c s w):=by
 obtain⟨i0,hi,hz0,hz1,hz2⟩:=info_parts b2f
 go_enter func66,ntmps66
 go_wp2
 go_loopw [5,6,7] (λv fr i wr=>∃(k f:Nat) (init:List Str),k<=s.length/\f<=k/\i=.int .i64 k/\fr=.int .i64 f/\init.length<=k/\P.split c (s.take k)=init++[(s.drop f).take (k-f)]/\a0x w.heap.size wr v init/\Bl w wr)
  (λ_ _ i _=>s.length-(intOf i).toNat)
 case atStart=>exact⟨0,0,[],Nat.zero_le _,Nat.le_refl _,rfl,rfl,Nat.le_refl _,by simp [P.split],World.ownsRow_made _ _ _ lZ dZ (by rfl),bZ.alloc lZ _⟩
 case round=>
  exact zq7
theorem b1w (s:Str) (w:World) (hs:s.length<=2^40) :
 Cz 66 #[.string (S s),.int .u8 35] w (a3w 35 s w):=a4y s 35 w hs
theorem b8f (s:Str) (w:World) (hs:s.length<=2^40) :
 Cz 66 #[.string (S s),.int .u8 62] w (a3w 62 s w):=a4y s 62 w hs
theorem b2i (s:Str) (w:World) (hs:s.length<=2^40) :
 Cz 66 #[.string (S s),.int .u8 10] w (a3w 10 s w):=a4y s 10 w hs
def a7n (g:Nat) (l:List Str) (v:World):Prop:=(g<v.heap.size/\∃c f,v.heap[g]?=some (.cells c 9 f))/\∀(j:Nat) (h:j<l.length),v.cell? ⟨g,j,none⟩=some (.string (S (l[j]'h)))
theorem a7n.below {v v':World} (h:a7n g l v) (hb:Bl v v'):a7n g l v':=
 ⟨⟨Nat.lt_of_lt_of_le h.1.1 hb.size,by obtain⟨c,f,hc⟩:=h.1.2;exact⟨c,f,(hb.block g h.1.1).trans hc⟩⟩,λj hj=>(hb.cell (p:=⟨g,j,none⟩) h.1.1).trans (h.2 j hj)⟩
theorem a7n.grown {v v':World} {row:Option Nat} (h:a7n g l v) (hg:v.grownBy v' row) (hne:some g≠row):a7n g l v':=
 ⟨⟨Nat.lt_of_lt_of_le h.1.1 hg.size,by obtain⟨c,f,hc⟩:=h.1.2;exact⟨c,f,(hg.block g h.1.1 hne).trans hc⟩⟩,λj hj=>(World.cell?_of_block (a:=⟨g,j,none⟩) (hg.block g h.1.1 hne)).trans (h.2 j hj)⟩
theorem pieces (s:Str):Lib.splitB (S [32]) 0 (Lib.countB (S s) (S [32])) (S s)=(P.split 32 s).map S:=by
 have h1:=Lib.splitB_data (S [32]) 0 (Lib.countB (S s) (S [32])) (S s);have h2:Lib.splitK [32] 0 (Lib.countB (S s) (S [32])) s=P.split 32 s:=P.b6u 32 s.length s lZ;rw [S_dataList,S_dataList,h2]at h1;rw [<-h1,List.map_map]
 conv=>lhs;rw [<-List.map_id (Lib.splitB (S [32]) 0 (Lib.countB (S s) (S [32])) (S s))]
 rfl
theorem d5m (s:Str) (w:World) (hs:s.length<=2^31) (hE:Env w) :
 Cz 103 #[.string (S s),.string (S [32])] w λe w'=>e=.returned (.slice (some ⟨w.heap.size,0,none⟩) (P.split 32 s).length (P.split 32 s).length)/\a7n w.heap.size (P.split 32 s) w'/\Bl w w':=by
 obtain⟨m,hm⟩:=hE.2
 have h:=Tryz.strings_Split (S s) (S [32]) m w (by rw [S_size];omega) hm dZ
 have hl:Lib.countB (S s) (S [32])+1=(P.split 32 s).length:=by
  have:=Lib.splitB_all (S [32]) dZ 0 _ (S s) rfl;rw [pieces,List.length_map]at this;omega
 rw [hl,pieces]at h
 refine h.mono ?_
 rintro e w' ⟨rfl,rfl⟩
 refine⟨rfl,⟨⟨by simp,⟨_,_,heap_alloc_new w _⟩⟩,λj hj=>?_⟩,bZ.alloc lZ _⟩
 rw [World.cell?_alloc_new]
 simp [hj]
theorem a6r (h:a0x B w v l) (hl:l≠[]):∃g cap,v=.slice (some ⟨g,0,none⟩) l.length cap/\B<=g/\a7n g l w:=by
 rcases h.2 with⟨_,h0⟩|⟨g,cap,cur,hv,hg,hh,_⟩
 .exact absurd (List.eq_nil_of_length_eq_zero h0) hl
 .have hob:v.ownBlock=some g:=by rw [hv];rfl
  refine⟨g,cap,hv,hg,⟨(World.ownsRow.lt h g hob).2,⟨_,_,hh⟩⟩,λj hj=>?_⟩;have hc:=World.ownsRow.cells h hob j (.string (S l[j])) (by simp [a3z,List.getElem?_eq_getElem hj])
  rwa [add0]at hc
def a0p (l:List (Int×Str)):List Value:=l.flatMap λa=>[.int .i64 a.1,.string (S a.2)]
theorem b2p (l:List (Int×Str)) (x:Int×Str):a0p (l++[x])=a0p l++[.int .i64 x.1,.string (S x.2)]:=by simp [a0p]
def a0v (B:Nat) (w:World) (v:Value) (l:List (Int×Str)):Prop:=w.ownsRow B 177 2 v l.length (a0p l)
theorem b2j:(Tryz.prog.info? 177).map (λi=>(i.zero,i.size,i.bytes))=some (some (.agg #[.int .i64 0,.string ⟨#[]⟩]),2,24):=by kernel_rfl
theorem a5c {l:List (Int×Str)} (h:a0v B w v l):∃a cap,v=.slice a l.length cap:=by
 exact zq59
theorem b6y {l:List (Int×Str)} {x:Int×Str} (hsz:w.heap.size<=w1.heap.size) (hown:a0v w.heap.size w1 v l) (hb:Bl w w1)
 (h:w2.ownsRow w.heap.size 177 2 v' (l.length+1) (a0p l++[.int .i64 x.1,.string (S x.2)])) (hg:(w1.alloc o).grownBy w2 v.ownBlock) :
 a0v w.heap.size w2 v' (l++[x])/\Bl w w2:=by
 refine⟨?_,(hb.alloc hsz _).grown hg (by simp;omega) (λk hk=>(World.ownsRow.lt hown k hk).1)⟩
 unfold a0v;rw [b2p,List.length_append];exact h
theorem c6q {xs:List Value} (h:w.ownsRow B 177 2 v n xs) (hs:a7n g l w):some g≠v.ownBlock:=by
 rcases h.2 with⟨rfl,_⟩|⟨g',cap,cur,rfl,_,hh,_⟩
 .simp [Value.ownBlock]
 .intro e;simp [Value.ownBlock]at e;obtain⟨c,f,hc⟩:=hs.1.2;subst e;rw [hh]at hc;injection hc with hc;injection hc with _ h2 _;exact absurd h2 dZ
theorem a0i {C:Nat} {w':World} {e:TypeId} {size:Nat} {xs:List Value} (h:w.ownsRow B e size v n xs) (hb:Below C w w') (hC:w.heap.size<=C):w'.ownsRow B e size v n xs:=
 h.kept (row:=none) ⟨hb.os,hb.tape,hb.output,hb.size,λk hk _=>hb.block k oZ⟩ (by cases v.ownBlock<;>simp)
end
section
namespace P
theorem c1s:∀ws:List Bs,(∀w∈ws,(a0s w).2=true)->atoms ws=some (ws.map λw=>(a0s w).1)
 |[],_=>rfl
 |w::ws,h=>by
  unfold atoms;rw [if_pos (h w sZ),c1s ws (λx hx=>h x (by simp [hx]))];rfl
theorem c2p:∀(ws:List Bs) (w:Bs),w∈ws->(a0s w).2=false->atoms ws=none
 |[],_,h,_=>by cases h
 |x::ws,w,h,hb=>by
  unfold atoms
  rcases List.mem_cons.1 h with rfl|h
  .rw [hb];rfl
  .rw [c2p ws w h hb];split<;>rfl
theorem d3l:∀(ws:List Bs) (w:Bs),w∈ws->w.length<=(ws.map List.length).sum
 |x::ws,w,h=>by
  rw [List.map_cons,List.sum_cons]
  rcases List.mem_cons.1 h with rfl|h
  .omega
  .have:=d3l ws w h;omega
theorem d0d {s w:Bs} (h:w∈split 32 s):w.length<=s.length:=by
 have h1:=d3l _ _ h;have h2:=(a3v 32 s).1;have h3:=(a3v 32 s).2;omega
theorem c4a (s:Bs):(split 32 s).length<=s.length+1/\1<=(split 32 s).length:=by
 have h2:=(a3v 32 s).1;have h3:=(a3v 32 s).2;omega
theorem b8w {s:Bs} (h:60<s.length):a0o s=([],false):=by unfold a0o;rw [if_pos h]
theorem c3b {s:Bs} (h:¬60<s.length) {w:Bs} (hw:w∈split 32 s) (hb:(a0s w).2=false):a0o s=([],false):=by
 unfold a0o;rw [if_neg h,c2p _ _ hw hb]
theorem d2u {s:Bs} (h:¬60<s.length) (ha:∀w∈split 32 s,(a0s w).2=true):a0o s=if 10<(split 32 s).length then ([],false) else ((split 32 s).map λw=>(a0s w).1,true):=by
 rw [<-d9r];unfold d3e;rw [if_neg h,c1s _ ha];simp only [List.length_map]
theorem d2g {s:Bs} (h:¬60<s.length) (ha:∀w∈split 32 s,(a0s w).2=true):a0o s=if b1a ((split 32 s).map λw=>(a0s w).1) then ((split 32 s).map λw=>(a0s w).1,true) else ([],false):=by
 unfold a0o;rw [if_neg h,c1s _ ha]
end P
open Go Go.RowKit
set_option maxHeartbeats 8000000
set_option maxRecDepth 100000
def c4n (s:Str) (w:World) (e:Ending) (w':World):Prop:=∃v,e=.returned (.tuple #[v,.bool (P.a0o s).2])/\((P.a0o s).2=true->a0v w.heap.size w' v (P.a0o s).1)/\Bl w w'
theorem a4v (s:Str) (w:World) (hs:s.length<=2^30) (hE:Env w) :
 Cz 156 #[.string (S s)] w (c4n s w):=by
 obtain⟨i0,hi,hz0,hz1,hz2⟩:=info_parts b2j
 have HE:=qh hE;clear hE
 by_cases h60:60<s.length
 .have HF:=qh (P.b8w h60);have h60':(60:Int)<(s.length:Int):=by omega
  go_enter func156,ntmps156
  go_wp2;go_ret2;exact⟨.slice none 0 0,by rw [HF.o];rfl,λh=>by (rw [HF.o]at h;cases h),Below.refl _ _⟩
 .have h60':¬(60:Int)<(s.length:Int):=by omega
  have HBAD:=qh (λw hw hb=>P.c3b (s:=s) h60 (w:=w) hw hb);have HMANY:=qh (λha=>P.d2u (s:=s) h60 ha);have HWL:=qh (λw hw=>P.d0d (s:=s) (w:=w) hw);obtain⟨hw1,hw2⟩:=P.c4a s;go_enter func156,ntmps156;go_wp2_with fail;refine (d5m _ _ oZ (HE.o.alloc _)).mono ?_;rintro e w1 ⟨rfl,hst,hb⟩;rw [World.size_alloc]at hst;generalize hws:P.split 32 s=ws at *;clear hws;refine zm88 ?_;intro hown0 hbel0;clear hb;go_wp2_with fail;go_loopw [4,16] (λv i wr=>∃j:Nat,j<=ws.length/\i=.int .i64 j/\(∀x∈ws.take j,(P.a0s x).2=true)/\a0v w.heap.size wr v ((ws.take j).map λx=>(P.a0s x).1)/\a7n (w.heap.size+1) ws wr/\Bl w wr) (λ_ i _=>ws.length-(intOf i).toNat)
  case atStart=>exact⟨0,Nat.zero_le _,rfl,by simp,hown0,hst,hbel0⟩
  case round=>
   obtain⟨j,hj,rfl,hall,hown,hstr,hbel⟩:=hrel;clear hown0 hst hbel0;obtain⟨out,hout⟩:∃out,out=(ws.take j).map λx=>(P.a0s x).1:=⟨_,rfl⟩;have hoj:out.length=j:=by rw [hout,List.length_map,List.length_take];omega
   rw [<-hout]at hown;have HOUT:=qh hout;clear hout;obtain⟨ad,cp,rfl⟩:=a5c hown;have HALL:=qh hall;have HOWN:=qh hown;have HST:=qh hstr;have HBEL:=qh hbel;have hsz:=hbel.size;clear hall hown hbel
   by_cases hlt:j<ws.length
   .have hcell:=hstr.2 j hlt;have hmem:ws[j]∈ws:=List.getElem_mem hlt;have hxl:=HWL.o _ hmem;have hsn:ws.take (j+1)=ws.take j++[ws[j]]:=a0g ws j hlt;have HSN:=qh hsn;have HMEM:=qh hmem;generalize hx:ws[j]=x at *;clear hstr hsn hmem
    cases hok:(P.a0s x).2
    .have HF:=qh (HBAD.o x HMEM.o hok)
     go_wp2_with fail
     refine (b0o x _ oZ).mono ?_;rintro e v ⟨rfl,hb⟩;rw [hok];have HB:=qh (HBEL.o.trans (hb.mono hsz));have hvz:w.heap.size<=v.heap.size:=Nat.le_trans hsz hb.size;clear hb;go_wp2;go_ret2;exact⟨.slice none 0 0,by rw [HF.o];rfl,λh=>by (rw [HF.o]at h;cases h),HB.o.alloc hvz _⟩
    .go_wp2_with fail
     refine (b0o x _ oZ).mono ?_;exact zq10
   .obtain rfl:j=ws.length:=by omega
    have HA:=qh (HMANY.o (by have:=HALL.o;rwa [List.take_length]at this))
    by_cases h10:10<ws.length
    .have HF:=qh (show P.a0o s=([],false) by rw [HA.o,if_pos h10]);have h10':(10:Int)<(out.length:Int):=by omega
     go_wp2;go_ret2;exact⟨.slice none 0 0,by rw [HF.o];rfl,λh=>by (rw [HF.o]at h;cases h),HBEL.o⟩
    .have HF:=qh (show P.a0o s=(out,true) by rw [HA.o,if_neg h10,HOUT.o,List.take_length]);have h10':¬(10:Int)<(out.length:Int):=by omega
     go_wp2;go_ret2;exact⟨.slice ad ws.length cp,by rw [HF.o];rfl,λ_=>by (rw [HF.o];have:=HOWN.o;rwa [hoj]at this),HBEL.o⟩
end
section
namespace P
theorem b4z:∀(l:List (Int×Bs)) (a:Int×Bs),a3f (l++[a])=a3f l+((note a.1 a.2).length:Int)
 |[],a=>by simp [a3f]
 |b::l,a=>by
  show ((note b.1 b.2).length:Int)+a3f (l++[a])=_
  rw [b4z l a]
  show _=((note b.1 b.2).length:Int)+a3f l+_
  omega
theorem b9e:∀(l:List (Int×Bs)),0<=a3f l
 |[]=>Int.le_refl _
 |b::l=>by
  have:=b9e l
  show 0<=((note b.1 b.2).length:Int)+a3f l
  omega
theorem c0o (k:Int) (t:Bs):(note k t).length<=t.length+5:=by
 unfold note
 repeat' split
 all_goals (simp;try omega)
theorem b8x (m:Nat):∀(l:List (Int×Bs)),(∀a∈l,a.2.length<=m)->a3f l<=(l.length:Int)*((m:Int)+5)
 |[],_=>by simp [a3f]
 |b::l,h=>by
  have h1:=b8x m l (λa ha=>h a (by simp [ha]));have h2:=c0o b.1 b.2;have h3:=h b sZ
  show ((note b.1 b.2).length:Int)+a3f l<=_
  rw [List.length_cons,Int.natCast_succ,Int.add_mul];omega
end P
open Go Go.RowKit
set_option maxHeartbeats 8000000
set_option maxRecDepth 100000
theorem b5h (l:List (Int×Str)):∀(j:Nat) (hj:j<l.length),(a0p l)[j*2]?=some (.int .i64 (l[j]'hj).1)/\(a0p l)[j*2+1]?=some (.string (S (l[j]'hj).2)):=by
 induction l with
 |nil=>intro j hj;simp at hj
 |cons a l ih=>
  intro j hj
  cases j with
  |zero=>exact⟨rfl,rfl⟩
  |succ j=>
   obtain⟨h1,h2⟩:=ih j (by simpa using hj);have e:a0p (a::l)=.int .i64 a.1::.string (S a.2)::a0p l:=rfl;rw [e,show (j+1)*2=j*2+1+1 by omega];exact⟨h1,h2⟩
def b9n (g:Nat) (l:List (Int×Str)) (v:World):Prop:=∀(j:Nat) (h:j<l.length),v.cell? ⟨g,j*2,none⟩=some (.int .i64 (l[j]'h).1)/\v.cell? ⟨g,j*2+1,none⟩=some (.string (S (l[j]'h).2))
def b8n (v:World) (u:Value) (l:List (Int×Str)):Prop:=∃ad cap,u=.slice ad l.length cap/\(l=[]\/∃g,ad=some ⟨g,0,none⟩/\g<v.heap.size/\b9n g l v)
theorem b2d {l:List (Int×Str)} (h:a0v B w v l):b8n w v l:=by
 rcases h.2 with⟨hv,h0⟩|⟨g,cap,cur,hv,hg,hh,_⟩
 .have hn:=List.eq_nil_of_length_eq_zero h0;exact⟨none,0,by rw [hv,hn];rfl,.inl hn⟩
 .have hob:v.ownBlock=some g:=by rw [hv];rfl
  refine⟨_,cap,hv,.inr ⟨g,rfl,(World.ownsRow.lt h g hob).2,λj hj=>?_⟩⟩;obtain⟨e1,e2⟩:=b5h l j hj;have c1:=World.ownsRow.cells h hob _ _ e1;have c2:=World.ownsRow.cells h hob _ _ e2;rw [add0]at c1 c2;exact⟨c1,c2⟩
theorem e1l (u:Value) (l:List (Int×Str)) (w:World) (hu:b8n w u l) (hl:l.length<=100) (hw:∀a∈l,a.2.length<=60) :
 Cz 194 #[u] w λe w'=>e=.returned (.bool (P.b1a l))/\Bl w w':=by
 obtain⟨ad,cap,rfl,hr⟩:=hu
 have HR:=qh hr;clear hr
 have HW:=qh hw;clear hw
 cases h1:decide (1<=(l.length:Int)/\(l.length:Int)<=10)
 .have HF:=qh (show P.b1a l=false by unfold P.b1a;rw [h1];rfl)
  go_enter func194,ntmps194
  go_wp2_with (go_at_call 187;refine (l1In _ _ _ _).mono ?_;rintro e w' ⟨rfl,rfl⟩)
  go_ret;exact⟨a0a HF.o.symm,Below.refl _ _⟩
 .have hle:=of_decide_eq_true h1;obtain⟨hle1,hle2⟩:=hle;have HF:=qh (show P.b1a l=(l.all (λa=>P.atom a.1 a.2)&&decide ((l.length:Int)-1+P.a3f l<=60)) by unfold P.b1a;rw [h1];rfl)
  go_enter func194,ntmps194
  go_wp2_with (go_at_call 187;refine (l1In _ _ _ _).mono ?_;rintro e w' ⟨rfl,rfl⟩)
  obtain⟨g,rfl,hg,hat⟩:∃g,ad=some ⟨g,0,none⟩/\g<w.heap.size/\b9n g l w:=by
   rcases HR.o with h|h
   .rw [h]at hle1;exact absurd hle1 dZ
   .exact h
  have HAT:=qh hat;clear hat HR
  go_loopw [3,4] (λz i wr=>∃j:Nat,j<=l.length/\i=.int .i64 j/\z=.int .i64 ((l.length:Int)-1+P.a3f (l.take j))/\(l.take j).all (λa=>P.atom a.1 a.2)=true/\Bl w wr) (λ_ i _=>l.length-(intOf i).toNat)
  case atStart=>exact⟨0,Nat.zero_le _,rfl,by simp [P.a3f],by simp,Below.refl _ _⟩
  case round=>
   obtain⟨j,hj,rfl,rfl,hall,hb⟩:=hrel;have HALL:=qh hall;clear hall;have hsz:=hb.size;have hn0:=P.b9e (l.take j);have hn1:=P.b8x 60 (l.take j) (λa ha=>HW.o a (List.mem_of_mem_take ha));rw [List.length_take,Nat.min_eq_left hj]at hn1
   by_cases hlt:j<l.length
   .obtain⟨c0,c1⟩:=HAT.o j hlt;have c0':=(hb.cell (p:=⟨g,j*2,none⟩) hg).trans c0;have c1':=(hb.cell (p:=⟨g,j*2+1,none⟩) hg).trans c1;have hwl:=HW.o _ (List.getElem_mem hlt);have HSN:=qh (a0g l j hlt);clear c0 c1;generalize l[j]=a at *;obtain⟨k,t⟩:=a;simp only at c0' c1' hwl;have HB:=qh hb;clear hb;have hgr:g<wr.heap.size:=by omega
    cases hok:P.atom k t
    .have HNO:=qh (show l.all (λa=>P.atom a.1 a.2)=false by
      rw [<-List.take_append_drop (j+1) l,HSN.o,List.all_append,List.all_append];simp [hok])
     go_wp2_with fail
     refine (c5d _ _ _ (by unfold maxLen;omega)).mono ?_;rintro e v ⟨rfl,hb⟩;rw [hok];have HB2:=qh (HB.o.trans (hb.mono hsz));clear hb;go_wp2;go_ret;exact⟨a0a (by rw [HF.o,HNO.o];rfl),HB2.o⟩
    .go_wp2_with fail
     refine (c5d _ _ _ (by unfold maxLen;omega)).mono ?_;rintro e v ⟨rfl,hb⟩;rw [hok];have HOK:=qh hok;clear hok;have d0:=(hb.cell (p:=⟨g,j*2,none⟩) hgr).trans c0';have d1:=(hb.cell (p:=⟨g,j*2+1,none⟩) hgr).trans c1';have HB2:=qh (HB.o.trans (hb.mono hsz));have hvz:w.heap.size<=v.heap.size:=Nat.le_trans hsz hb.size;clear hb c0' c1'
     go_wp2_with fail
     refine (c1t _ _ _ oZ).mono ?_;rintro e v2 ⟨rfl,hb⟩;have HB3:=qh (HB2.o.trans (hb.mono hvz));clear hb;have hnl:=P.c0o k t;obtain⟨f,hf⟩:∃f,f=P.note k t:=⟨_,rfl⟩;rw [<-hf]at hnl⊢;have HFF:=qh hf;clear hf;have hb1:(j:Int)*(((60:Nat):Int)+5)<=6500:=by omega
     go_wp2
     go_roundw
     case rel=>
      refine⟨j+1,by omega,by go_num,?_,?_,HB3.o⟩
      .rw [HSN.o,P.b4z,<-HFF.o];go_num
      .rw [HSN.o,List.all_append,HALL.o];simp [HOK.o]
     case measure=>exact zq
   .obtain rfl:j=l.length:=by omega
    have HA:=qh (show l.all (λa=>P.atom a.1 a.2)=true by have:=HALL.o;rwa [List.take_length]at this);rw [List.take_length]at hn0 hn1⊢;have HB:=qh hb;clear hb;go_wp2;go_ret;exact⟨a0a (by rw [HF.o,HA.o];rfl),HB.o⟩
end
section
namespace P
theorem d4a (s:Bs):(a0s s).1.2.length<=s.length:=by
 unfold a0s
 split
 .exact d0m s
 .exact Nat.zero_le _
end P
open Go Go.RowKit
set_option maxHeartbeats 8000000
set_option maxRecDepth 100000
theorem d5d (s:Str) (w:World) (hs:s.length<=2^40) :
 Cz 66 #[.string (S s),.int .u8 32] w (a3w 32 s w):=a4y s 32 w hs
theorem c5w (s:Str) (w:World) (hs:s.length<=2^30) :
 Cz 171 #[.string (S s)] w (c4n s w):=by
 obtain⟨i0,hi,hz0,hz1,hz2⟩:=info_parts b2j
 by_cases h60:60<s.length
 .have HF:=qh (P.b8w h60);have h60':(60:Int)<(s.length:Int):=by omega
  go_enter func171,ntmps171
  go_wp2;go_ret2;exact⟨.slice (some ⟨w.heap.size,0,none⟩) 0 0,by rw [HF.o];rfl,λh=>by (rw [HF.o]at h;cases h),bZ.alloc lZ _⟩
 .have h60':¬(60:Int)<(s.length:Int):=by omega
  have HBAD:=qh (λw hw hb=>P.c3b (s:=s) h60 (w:=w) hw hb);have HLIST:=qh (λha=>P.d2g (s:=s) h60 ha);have HWL:=qh (λw hw=>P.d0d (s:=s) (w:=w) hw);obtain⟨hw1,hw2⟩:=P.c4a s;go_enter func171,ntmps171;go_wp2_with fail;refine (d5d _ _ oZ).mono ?_;rintro e w1 ⟨vs,rfl,hows,hb⟩;generalize hws:P.split 32 s=ws at *;clear hws;obtain⟨gs,cs,rfl,_,hst⟩:=a6r hows (by intro e;rw [e]at hw2;exact absurd hw2 dZ);refine zm88 ?_;intro hown0 hbel0;clear hb hows;go_wp2_with fail;go_loopw [4,6] (λv i wr=>∃j:Nat,j<=ws.length/\i=.int .i64 j/\(∀x∈ws.take j,(P.a0s x).2=true)/\a0v w.heap.size wr v ((ws.take j).map λx=>(P.a0s x).1)/\a7n gs ws wr/\Bl w wr) (λ_ i _=>ws.length-(intOf i).toNat)
  case atStart=>exact⟨0,Nat.zero_le _,rfl,by simp,hown0,hst,hbel0⟩
  case round=>
   obtain⟨j,hj,rfl,hall,hown,hstr,hbel⟩:=hrel;clear hown0 hst hbel0;obtain⟨out,hout⟩:∃out,out=(ws.take j).map λx=>(P.a0s x).1:=⟨_,rfl⟩;have hoj:out.length=j:=by rw [hout,List.length_map,List.length_take];omega
   rw [<-hout]at hown;have HOUT:=qh hout;clear hout;obtain⟨ad,cp,rfl⟩:=a5c hown;have HALL:=qh hall;have HOWN:=qh hown;have HST:=qh hstr;have HBEL:=qh hbel;have hsz:=hbel.size;clear hall hown hbel
   by_cases hlt:j<ws.length
   .have hcell:=hstr.2 j hlt;have hmem:ws[j]∈ws:=List.getElem_mem hlt;have hxl:=HWL.o _ hmem;have hsn:ws.take (j+1)=ws.take j++[ws[j]]:=a0g ws j hlt;have HSN:=qh hsn;have HMEM:=qh hmem;generalize hx:ws[j]=x at *;clear hstr hsn hmem
    cases hok:(P.a0s x).2
    .have HF:=qh (HBAD.o x HMEM.o hok)
     go_wp2_with fail
     refine (b0v x _ oZ).mono ?_;rintro e v ⟨rfl,hb⟩;rw [hok];have HB:=qh (HBEL.o.trans (hb.mono hsz));have hvz:w.heap.size<=v.heap.size:=Nat.le_trans hsz hb.size;clear hb;go_wp2;go_ret2;exact⟨.slice (some ⟨v.heap.size+1,0,none⟩) 0 0,by rw [HF.o];rfl,λh=>by (rw [HF.o]at h;cases h),(HB.o.alloc hvz _).alloc (by simp;omega) _⟩
    .go_wp2_with fail
     refine (b0v x _ oZ).mono ?_;exact zq10
   .obtain rfl:j=ws.length:=by omega
    have HA:=qh (HLIST.o (by have:=HALL.o;rwa [List.take_length]at this));have HAT:=qh (b2d HOWN.o)
    have hol:∀a∈out,a.2.length<=60:=by
     intro a ha;rw [HOUT.o,List.take_length,List.mem_map]at ha;obtain⟨y,hy,rfl⟩:=ha;have h1:=P.d4a y;have h2:=HWL.o y hy;omega
    have HOL:=qh hol;clear hol hstr;have HX:=qh (show P.a0o s=if P.b1a out then (out,true) else ([],false) by rw [HA.o,HOUT.o,List.take_length]);have hat:b8n wr (.slice ad ws.length cp) out:=by have:=HAT.o;rwa [hoj]at this
    have hown2:a0v w.heap.size wr (.slice ad ws.length cp) out:=by have:=HOWN.o;rwa [hoj]at this
    have HOWN2:=qh hown2;have HAT2:=qh hat;clear hat hown2 HOWN HAT
    go_wp2_with fail
    refine (e1l _ out _ HAT2.o oZ HOL.o).mono ?_;rintro e v ⟨rfl,hb⟩;have HO2:=qh (a0i HOWN2.o hb lZ);have HB:=qh (HBEL.o.trans (hb.mono hsz));have hvz:w.heap.size<=v.heap.size:=Nat.le_trans hsz hb.size;clear hb
    cases hls:P.b1a out
    .have HF:=qh (show P.a0o s=([],false) by rw [HX.o,hls];rfl);go_wp2;go_ret2;exact⟨.slice (some ⟨v.heap.size,0,none⟩) 0 0,by rw [HF.o];rfl,λh=>by (rw [HF.o]at h;cases h),HB.o.alloc hvz _⟩
    .have HF:=qh (show P.a0o s=(out,true) by rw [HX.o,hls];rfl);go_wp2;go_ret2;exact⟨.slice ad ws.length cp,by rw [HF.o];rfl,λ_=>by (rw [HF.o];exact HO2.o),HB.o⟩
end
end Go.Proofs.YtggfdnopminemaaGreatDoor
