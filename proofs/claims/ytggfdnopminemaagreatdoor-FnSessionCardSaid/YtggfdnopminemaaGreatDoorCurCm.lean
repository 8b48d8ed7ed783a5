/- Walks: one record more. -/
import Derived.Test.YtggfdnopminemaaGreatDoorSesV
import Derived.Test.YtggfdnopminemaaGreatDoorScrI9
set_option linter.all false
namespace Go.Proofs.YtggfdnopminemaaGreatDoor.P
open Go.Proofs.Tryz
def appS (d p:Bs) (n:Int) (c r:Bs):Bs×Int×Int:=
 if !a0p d p n||!good c r then (p,n,1) else if n==60 then (p,n,2) else (p++line n.toNat c r,n+1,0)
def appI (d p:Bs) (n:Int) (c r:Bs):Bs×Int×Int:=
 if !a1g d p n||!vrec c r then (p,n,1) else if n==60 then (p,n,2) else (p++(encode n c r).1,n+1,0)
theorem a7l {d p:Bs} {n:Int} (h:a0p d p n=true):0<=n/\n<=60/\d.length+p.length<=30000:=by
 unfold a0p at h;simp only [Bool.and_eq_true,decide_eq_true_eq,beq_iff_eq]at h;have:=(b7d (d++p)).1;rw [a5d]at h;simp only at h;omega
theorem app_eq (d p:Bs) (n:Int) (c r:Bs):appI d p n c r=appS d p n c r:=by
 unfold appI appS;rw [a5c,a6n]
 cases h1:a0p d p n<;>cases h2:good c r<;>try rfl
 cases h3:(n==60)
 .obtain⟨h4,h5,_⟩:=a7l h1;obtain⟨m,rfl⟩:=Int.eq_ofNat_of_zero_le h4;have h6:((m:Nat):Int)≠60:=by simpa using h3
  have:=a7n (k:=m) oZ h2;simp only [Bool.not_true,Bool.or_self,Bool.false_eq_true,if_false,Int.toNat_natCast];rw [this]
 .rfl
end Go.Proofs.YtggfdnopminemaaGreatDoor.P
namespace Go.Proofs.YtggfdnopminemaaGreatDoor.L
open Go.Proofs.Tryz
open Go Go.RowKit
set_option maxHeartbeats 8000000
set_option maxRecDepth 100000
variable {n:Int} {c d p r:Str} {v w:Go.World}
def AB (w:World) (d p:Str) (n:Int) (c r:Str) (v:World):Prop:=
 (v.cell? ⟨w.heap.size,0,none⟩=some (.string (S d))/\v.cell? ⟨w.heap.size,1,none⟩=some (.string (S p))/\v.cell? ⟨w.heap.size,2,none⟩=some (.int .i64 n)) /\
 (v.cell? ⟨w.heap.size+1,0,none⟩=some (.string (S c))/\v.cell? ⟨w.heap.size+1,1,none⟩=some (.string (S r))) /\
 (v.cell? ⟨w.heap.size+1+1,0,none⟩=some (.string (S []))/\v.cell? ⟨w.heap.size+1+1,1,none⟩=some (.string (S []))/\v.cell? ⟨w.heap.size+1+1,2,none⟩=some (.int .i64 0)) /\
 (v.frozen? ⟨w.heap.size,0,none⟩=false/\v.frozen? ⟨w.heap.size,1,none⟩=false/\v.frozen? ⟨w.heap.size,2,none⟩=false) /\
 (v.frozen? ⟨w.heap.size+1+1,0,none⟩=false/\v.frozen? ⟨w.heap.size+1+1,1,none⟩=false/\v.frozen? ⟨w.heap.size+1+1,2,none⟩=false) /\
 w.heap.size+1+1<v.heap.size/\Env v/\Bl w v
theorem AB.start {t u:TypeId} (hE:Env w) :
 AB w d p n c r (((w.alloc (.cells #[.string (S d),.string (S p),.int .i64 n] t)).alloc (.cells #[.string (S c),.string (S r)] u)).alloc (.cells #[.string (S []),.string (S []),.int .i64 0] t)):=by
 refine⟨⟨?_,?_,?_⟩,⟨?_,?_⟩,⟨?_,?_,?_⟩,⟨?_,?_,?_⟩,⟨?_,?_,?_⟩,by simp,((hE.alloc _).alloc _).alloc _,((bZ.alloc lZ _).alloc sZ _).alloc (by simp;omega) _⟩<;>go_simp
theorem AB.carry {v':World} (h:AB w d p n c r v) (hb:Bl v v'):AB w d p n c r v':=by
 obtain⟨⟨a1,a2,a3⟩,⟨b1,b2⟩,⟨c1,c2,c3⟩,⟨d1,d2,d3⟩,⟨e1,e2,e3⟩,f,g,i⟩:=h;have hz0:w.heap.size<v.heap.size:=by omega
 have hz1:w.heap.size+1<v.heap.size:=by omega
 refine⟨⟨?_,?_,?_⟩,⟨?_,?_⟩,⟨?_,?_,?_⟩,⟨?_,?_,?_⟩,⟨?_,?_,?_⟩,Nat.lt_of_lt_of_le f hb.size,g.below hb g.size,i.trans (hb.mono oZ)⟩
 .exact (hb.cell (p:=⟨_,0,none⟩) hz0).trans a1
 .exact (hb.cell (p:=⟨_,1,none⟩) hz0).trans a2
 .exact (hb.cell (p:=⟨_,2,none⟩) hz0).trans a3
 .exact (hb.cell (p:=⟨_,0,none⟩) hz1).trans b1
 .exact (hb.cell (p:=⟨_,1,none⟩) hz1).trans b2
 .exact (hb.cell (p:=⟨_,0,none⟩) f).trans c1
 .exact (hb.cell (p:=⟨_,1,none⟩) f).trans c2
 .exact (hb.cell (p:=⟨_,2,none⟩) f).trans c3
 .exact (hb.frozen (p:=⟨_,0,none⟩) hz0).trans d1
 .exact (hb.frozen (p:=⟨_,1,none⟩) hz0).trans d2
 .exact (hb.frozen (p:=⟨_,2,none⟩) hz0).trans d3
 .exact (hb.frozen (p:=⟨_,0,none⟩) f).trans e1
 .exact (hb.frozen (p:=⟨_,1,none⟩) f).trans e2
 .exact (hb.frozen (p:=⟨_,2,none⟩) f).trans e3
theorem AB.env (h:AB w d p n c r v):Env v:=h.2.2.2.2.2.2.1
theorem AB.below (h:AB w d p n c r v):Bl w v:=h.2.2.2.2.2.2.2
theorem c5w (d p:Str) (n:Int) (c r:Str) (w:World) (hd:d.length<=2^20) (hp:p.length<=2^20) (hc:c.length<=2^20) (hr:r.length<=2^20) (hE:Env w) :
 Cz 72 #[logV d p n,.agg #[.string (S c),.string (S r)]] w λe w'=>e=.returned (.tuple #[logV d (P.appI d p n c r).1 (P.appI d p n c r).2.1,.int .i64 (P.appI d p n c r).2.2])/\Bl w w':=by
 have A1:=qh (AB.start (w:=w) (d:=d) (p:=p) (n:=n) (c:=c) (r:=r) (t:=28) (u:=86) hE)
 clear hE
 cases h1:P.a1g d p n
 .have HF:=qh (show P.appI d p n c r=(p,n,1) by unfold P.appI;rw [h1];rfl);go_enter func72,ntmps72;go_wp2_with fail;refine (a6o _ _ _ _ hd hp A1.o.env).mono ?_;rintro e w1 ⟨rfl,hb⟩;refine zn25 ?_;intro A2 a1 a2 a3 b1 b2 c1 c2 c3 d1 d2 d3 e1 e2 e3 hz;clear hb A1;go_wp2;refine bodyPost_ret (v:=.tuple #[logV d p n,.int .i64 1]) (by simp [results,results72,go_sem,c1,c2,c3]) rfl ⟨by rw [HF.o],?_⟩;exact ((A2.o.below.setCell (by simp;omega) _).setCell (by simp;omega) _).setCell (by simp;omega) _
 .cases h2:P.vrec c r
  .have HF:=qh (show P.appI d p n c r=(p,n,1) by unfold P.appI;rw [h1,h2];rfl);go_enter func72,ntmps72;go_wp2_with fail;refine (a6o _ _ _ _ hd hp A1.o.env).mono ?_;rintro e w1 ⟨rfl,hb⟩;refine zn25 ?_;intro A2 a1 a2 a3 b1 b2 c1 c2 c3 d1 d2 d3 e1 e2 e3 hz;clear hb A1;go_wp2_with fail;refine (a3d _ _ _ oZ oZ).mono ?_;rintro e w2 ⟨rfl,hb⟩;refine zn69 ?_;clear hb A2 a1 a2 a3 b1 b2 c1 c2 c3 d1 d2 d3 e1 e2 e3 hz;intro A3 a1 a2 a3 b1 b2 c1 c2 c3 d1 d2 d3 e1 e2 e3 hz;go_wp2;refine bodyPost_ret (v:=.tuple #[logV d p n,.int .i64 1]) (by simp [results,results72,go_sem,c1,c2,c3]) rfl ⟨by rw [HF.o],?_⟩;exact zq95
  .cases h3:(n==60)
   .have HF:=qh (show P.appI d p n c r=(p++(P.encode n c r).1,n+1,0) by unfold P.appI;rw [h1,h2,h3];rfl);have hn:=P.a7l (P.a5c d p n ▸ h1);obtain⟨hn0,hn1,_⟩:=hn;obtain⟨x,hx⟩:∃x,(P.encode n c r).1=x:=⟨_,rfl⟩;have HX:=qh hx
    have hxl:x.length<=10000:=by
     rw [<-hx];obtain⟨m,rfl⟩:=Int.eq_ofNat_of_zero_le hn0;have h6:((m:Nat):Int)≠60:=by simpa using h3
     rw [P.a7n (k:=m) oZ (P.a6n c r ▸ h2)];have:=(P.a4x (k:=m) oZ (P.a6n c r ▸ h2)).1
     show (P.line m c r).length<=10000
     omega
    clear hx;go_enter func72,ntmps72;go_wp2_with fail;refine (a6o _ _ _ _ hd hp A1.o.env).mono ?_;rintro e w1 ⟨rfl,hb⟩;refine zn25 ?_;intro A2 a1 a2 a3 b1 b2 c1 c2 c3 d1 d2 d3 e1 e2 e3 hz;clear hb A1;go_wp2_with fail;refine (a3d _ _ _ oZ oZ).mono ?_;rintro e w2 ⟨rfl,hb⟩;refine zn69 ?_;clear hb A2 a1 a2 a3 b1 b2 c1 c2 c3 d1 d2 d3 e1 e2 e3 hz;intro A3 a1 a2 a3 b1 b2 c1 c2 c3 d1 d2 d3 e1 e2 e3 hz;go_wp2_with fail;refine (b4c _ _ _ _ oZ oZ A3.o.env).mono ?_;rintro e w3 ⟨rfl,hb⟩;rw [HX.o];have A4:=qh (A3.o.carry hb);clear hb A3;clear a1 a2 a3 b1 b2 c1 c2 c3 d1 d2 d3 e1 e2 e3 hz;obtain⟨⟨a1,a2,a3⟩,⟨b1,b2⟩,⟨c1,c2,c3⟩,⟨d1,d2,d3⟩,⟨e1,e2,e3⟩,hz,_⟩:=A4.o;have f1:¬9223372036854775807<p.length+x.length:=by omega
    go_wp2;refine bodyPost_ret (v:=.tuple #[logV d (p++x) (n+1),.int .i64 0]) (by simp [results,results72,go_sem,c1,c2,c3]) rfl ⟨by rw [HF.o,HX.o],?_⟩;exact ((A4.o.below.setCell (by simp;omega) _).setCell (by simp;omega) _).setCell (by simp;omega) _
   .have HF:=qh (show P.appI d p n c r=(p,n,2) by unfold P.appI;rw [h1,h2,h3];rfl);go_enter func72,ntmps72;go_wp2_with fail;refine (a6o _ _ _ _ hd hp A1.o.env).mono ?_;rintro e w1 ⟨rfl,hb⟩;refine zn25 ?_;intro A2 a1 a2 a3 b1 b2 c1 c2 c3 d1 d2 d3 e1 e2 e3 hz;clear hb A1;go_wp2_with fail;refine (a3d _ _ _ oZ oZ).mono ?_;rintro e w2 ⟨rfl,hb⟩;refine zn69 ?_;clear hb A2 a1 a2 a3 b1 b2 c1 c2 c3 d1 d2 d3 e1 e2 e3 hz;intro A3 a1 a2 a3 b1 b2 c1 c2 c3 d1 d2 d3 e1 e2 e3 hz;go_wp2;refine bodyPost_ret (v:=.tuple #[logV d p n,.int .i64 2]) (by simp [results,results72,go_sem,c1,c2,c3]) rfl ⟨by rw [HF.o],?_⟩;exact zq95
end Go.Proofs.YtggfdnopminemaaGreatDoor.L
namespace Go.Proofs.YtggfdnopminemaaGreatDoor.P
open Go.Proofs.Tryz
variable {y:Bs} {d:Dic} {l:List Int}
def fmtE (e:Edit):Bs:=45::(num e.1.toNat++43::e.2)
abbrev Ses:=Dic×Tr
abbrev Ans:=Ses×Option Bs
def optB (r:Bs×Bool):Option Bs:=if r.2 then some r.1 else none
def b0m (d:Dic):Tr->List Int->Option Tr
 |t,[]=>some t
 |t,k::r=>if (a6a d t k).2 then b0m d (a6a d t k).1.1 r else none
def typed (s:Ses) (l:List Int):Ans:=match b0m s.1 s.2 l with
 |none=>(s,none)
 |some t=>((s.1,t),some (fmtE (least s.2.2 t.2)))
def b0a (s:Ses) (o:List Int):Bs×Bool:=scr (kept (a3v o s.1) (del o s.1)) s.2.1
def a2t (s:Ses) (o:List Int):Ans:=if a3v o s.1&&(b0a s o).2 then ((kept (a3v o s.1) (del o s.1),(s.2.1,(b0a s o).1)),some (fmtE (least s.2.2 (b0a s o).1))) else (s,none)
def d4l:Bs:=[112,114,101,115,115]
def d1a:Bs:=[116,121,112,101]
def b2v:Bs:=[100,101,108,101,116,101]
def c5r:Bs:=[108,111,111,107,117,112]
def c5t:Bs:=[100,101,102,105,110,101]
def b9x:Bs:=[114,101,118,101,114,115,101]
def e3c:Bs:=[106,111,105,110]
def d5z:Bs:=[108,111,111,115,101]
def e2w:Bs:=[117,110,100,111]
def c4p:Bs:=[115,99,114,101,101,110]
def d2t:Bs:=[99,111,117,110,116]
def c5o:Bs:=[112,105,101,99,101,115]
def wNone:Bs:=[110,111,110,101]
def e2d:Bs:=[108,111,110,103]
def wNo:Bs:=[110,111]
def wBad:Bs:=[98,97,100]
def d6x:Bs:=[102,117,108,108]
def outl (s:Ses) (word:Bs) (o:List Int):Ans:=if word=d1a then typed s o else if word=b2v then a2t s o else (s,optB (b4h o s.1))
def a5r (s:Ses) (word more:Bs):Ans:=match a1r more with
 |none=>(s,none)
 |some o=>outl s word o
def a2b (t:Bs) (l:Dic):List (List Int):=(l.filter λe=>e.2==t).map (·.1)
def revT (d:Dic) (t:Bs):Bs:=if a2b t d=[] then wNone else Go.Lib.join ((a2b t d).map λo=>(fmtS 47 o).map hash) [32]
def a4h (d:Dic) (more:Bs):Option Bs:=if (a0m more).2 then some (revT d more) else none
def a1h (s:Ses) (more:Bs):Ans:=match a1r (head 32 more) with
 |none=>(s,none)
 |some o=>if (head 32 more).length=more.length then (s,none) else
  if (a3f s.1 s.2 (o,more.drop ((head 32 more).length+1))).2 then
   ((a3f s.1 s.2 (o,more.drop ((head 32 more).length+1))).1.1,some (fmtE (a3f s.1 s.2 (o,more.drop ((head 32 more).length+1))).1.2)) else (s,none)
def a0t (more:Bs):Option Bs:=match split 32 more with
 |[a,b]=>optB (a2c a b)
 |_=>none
def b5d (more:Bs):Option Bs:=if (loose more).2 then some (fmt ((loose more).1:Int)) else none
def blank (l:List Pc):Nat:=(l.filter λp=>p.2==[]).length
def alone (s:Ses) (word:Bs):Ans:=
 if word=e2w then typed s [1024] else if word=c4p then (s,some s.2.2) else if word=d2t then (s,some (num s.2.1.length))
 else if word=c5o then (s,some ((num (segA s.1 s.2.1).length++[32])++num (blank (segA s.1 s.2.1)))) else (s,none)
def a5o (s:Ses) (more:Bs):Ans:=if (parse more).2 then typed s [((parse more).1:Int)] else (s,none)
def args (s:Ses) (word more:Bs):Ans:=
 if word=d4l then a5o s more else if word=d1a\/word=b2v\/word=c5r then a5r s word more
 else if word=c5t then a1h s more else if word=b9x then (s,a4h s.1 more)
 else if word=e3c then (s,a0t more) else if word=d5z then (s,b5d more) else (s,none)
def cmd (s:Ses) (line:Bs):Ans:=if (head 32 line).length=line.length then alone s (head 32 line) else args s (head 32 line) (line.drop ((head 32 line).length+1))
def a2p (o:Option Bs):Bs:=match o with
 |none=>[63]
 |some r=>if 200<r.length then e2d else r
abbrev LogT:=Bs×Bs×Int
def a9z (g:LogT) (c r:Bs):LogT:=(g.1,(appS g.1 g.2.1 g.2.2 c r).1,(appS g.1 g.2.1 g.2.2 c r).2.1)
def a9p (s:Ses) (g:LogT):Bool:=sess s.1 s.2.1 s.2.2 g.1 g.2.1 g.2.2
def exec (s:Ses) (g:LogT) (line:Bs):(Ses×LogT)×Bs:=
 if !a9p s g then ((s,g),wNo) else if !good line [] then ((s,g),wBad) else if g.2.2=60 then ((s,g),d6x)
 else (((cmd s line).1,a9z g line (a2p (cmd s line).2)),a2p (cmd s line).2)
/-! ### cut and split -/
theorem d9a (c:UInt8) (l:Bs) (h:c∉l):Go.Lib.cut l [c]=(l,[],false):=by
 unfold Go.Lib.cut;rw [b0y c l h];rfl
theorem b5n (c:UInt8) (l:Bs):(c∉l/\Go.Lib.cut l [c]=(l,[],false)/\head c l=l) \/
 ∃x y,l=x++c::y/\(∀b∈x,b≠c)/\Go.Lib.cut l [c]=(x,y,true)/\head c l=x/\l.drop ((head c l).length+1)=y/\(head c l).length<l.length:=by
 by_cases hm:c∈l
 .obtain⟨x,y,e,hx⟩:=a2i c l hm;refine .inr ⟨x,y,e,hx,by rw [e];exact b3c c x y hx,by rw [e];exact a7h c x y hx,?_,?_⟩
  .rw [e,a7h c x y hx,show x++c::y=(x++[c])++y by simp,show x.length+1=(x++[c]).length by simp,List.drop_left]
  .rw [e,a7h c x y hx];simp
 .exact .inl ⟨hm,d9a c l hm,by unfold head;rw [a5e c l hm];rfl⟩
theorem e1d (s:Ses) (line:Bs):cmd s line=if (Go.Lib.cut line [32]).2.2 then args s (Go.Lib.cut line [32]).1 (Go.Lib.cut line [32]).2.1 else alone s (Go.Lib.cut line [32]).1:=by
 unfold cmd
 rcases b5n 32 line with⟨_,h1,h2⟩|⟨x,y,_,_,h1,h2,h3,h4⟩
 .rw [h1,h2,if_pos rfl];rfl
 .rw [h1,if_neg oZ,h3,h2];rfl
theorem d0i (h:(32:UInt8)∈y):isWord y=false:=by
 unfold isWord
 have:y.all lower=false:=by
  rw [List.all_eq_false];exact⟨32,h,by decide⟩
 rw [this];rfl
theorem c7x {x:Bs} (h:isWord y=false):a2c x y=([],false):=by
 unfold a2c;rw [h,Bool.and_false];rfl
theorem c9o (more:Bs):optB (a2c (Go.Lib.cut more [32]).1 (Go.Lib.cut more [32]).2.1)=a0t more:=by
 unfold a0t
 rcases b5n 32 more with⟨h0,h1,h2⟩|⟨x,y,h0,hx,h1,_⟩
 .rw [h1,a5e 32 more h0]
  show optB (a2c more [])=none
  rw [c7x dZ];rfl
 .rw [h1,h0,a7a 32 y x hx]
  by_cases hy:(32:UInt8)∈y
  .obtain⟨a,b,e,ha⟩:=a2i 32 y hy
   show optB (a2c x y)=_
   rw [c7x (d0i hy),e,a7a 32 b a ha]
   cases hb:split 32 b with
   |nil=>exact absurd hb (a3c 32 b)
   |cons _ _=>rfl
  .rw [a5e 32 y hy]
theorem c6c (d:Dic) (t:Tr) (o:List Int):(a3f d t (o,[])).2=false:=by
 have:a3w (o,[]) d=false:=by
  unfold a3w entry;rw [show (a0m ([]:Bs)).2=false from by decide];simp
 rw [b0u (by rw [this];simp)]
theorem b0r (s:Ses) (more:Bs):a1h s more=match a1r (Go.Lib.cut more [32]).1 with
 |none=>(s,none)
 |some o=>if (a3f s.1 s.2 (o,(Go.Lib.cut more [32]).2.1)).2 then ((a3f s.1 s.2 (o,(Go.Lib.cut more [32]).2.1)).1.1,some (fmtE (a3f s.1 s.2 (o,(Go.Lib.cut more [32]).2.1)).1.2)) else (s,none):=by
 unfold a1h
 rcases b5n 32 more with⟨h0,h1,h2⟩|⟨x,y,h0,hx,h1,h2,h3,h4⟩
 .rw [h1,h2]
  cases a1r more with
  |none=>rfl
  |some o=>simp only [c6c];simp
 .rw [h1,h3]
  show _=match a1r x with
   |none=>(s,none)
   |some o=>if (a3f s.1 s.2 (o,y)).2 then ((a3f s.1 s.2 (o,y)).1.1,some (fmtE (a3f s.1 s.2 (o,y)).1.2)) else (s,none)
  rw [h2]at h4⊢
  cases a1r x with
  |none=>rfl
  |some o=>
   show (if x.length=more.length then _ else _)=_
   rw [if_neg oZ]
/-! ### what a command keeps -/
theorem c0v (h:(scr d l).2=true) (h2:l.contains 1024=false):trans d (l,(scr d l).1)=true:=by
 unfold trans;rw [h,h2];simp
theorem b5e:∀{l:List Int} {t t':Tr},trans d t=true->b0m d t l=some t'->trans d t'=true
 |[],t,t',h,e=>by injection e with e;subst e;exact h
 |k::l,t,t',h,e=>by
  unfold b0m at e
  split at e
  .rename_i hp;exact b5e (b0l hp) e
  .cases e
theorem a7c {s:Ses} (h:trans s.1 s.2=true):trans (typed s l).1.1 (typed s l).1.2=true:=by
 unfold typed
 cases hq:b0m s.1 s.2 l with
 |none=>exact h
 |some t=>exact b5e h hq
end Go.Proofs.YtggfdnopminemaaGreatDoor.P
namespace Go.Proofs.YtggfdnopminemaaGreatDoor
open Go.Proofs.Tryz
open Go Go.RowKit
set_option maxHeartbeats 8000000
set_option maxRecDepth 100000
variable {B C D K hi lo:Nat} {l:P.Dic} {u:Go.Value} {v v' w:Go.World}
theorem c0s (B:Nat) (u:Value) (l:List Str) (c:UInt8) (w:World) (h:a0w B w u l) (hl:l.length<=2^20) (hx:(Lib.join l [c]).length<=2^30) :
 Cz 185 #[u,.string (S [c])] w λe w'=>e=.returned (.string (S (Lib.join l [c])))/\Bl w w':=by
 cases l with
 |nil=>
  have hu:∃a cap,u=.slice a 0 cap:=by
   rcases h.2 with⟨rfl,_⟩|⟨g,cap,cur,rfl,_⟩
   .exact⟨_,_,rfl⟩
   .exact⟨_,_,rfl⟩
  obtain⟨a,cap,rfl⟩:=hu;refine (Tryz.strings_Join_none a cap (S [c]) w).mono ?_;rintro e w' ⟨rfl,rfl⟩;exact⟨rfl,Below.refl _ _⟩
 |cons x r=>
  rcases id h.2 with⟨_,h0⟩|⟨g,cap,cur,hv,hg,hh,hnc,_⟩
  .simp at h0
  .have hob:u.ownBlock=some g:=by rw [hv];rfl
   have hgl:=(World.ownsRow.lt h g hob).2
   have hj:=Tryz.strings_Join g 0 cap ((x::r).map S) (S [c]) w (by
    intro j y hy
    rw [List.getElem?_map]at hy
    cases hq:(x::r)[j]? with
    |none=>rw [hq]at hy;simp at hy
    |some z=>
     rw [hq]at hy;simp only [Option.map_some,Option.some.injEq]at hy;subst hy;have hc:=World.ownsRow.cells h hob j (.string (S z)) (by unfold a3q;rw [List.getElem?_map,hq];rfl);rw [add0]at hc;rw [Nat.zero_add];exact hc) hgl (by simp at hl⊢;omega) (by simpa using hnc) (by
    rw [List.map_map,S_dataList,show ((λx:ByteArray=>x.data.toList) ∘ S)=id from funext λz=>S_dataList z,List.map_id];omega)
   rw [List.length_map]at hj;rw [hv];refine hj.mono ?_;rintro e w' ⟨rfl,hb⟩;refine⟨?_,hb⟩;rw [List.map_map,S_dataList,show ((λx:ByteArray=>x.data.toList) ∘ S)=id from funext λz=>S_dataList z,List.map_id];rfl
theorem d0m (us:Value) (st:List Int) (w:World) (hus:IntR w us st) (hs:P.a3i st=true) :
 Cz 108 #[us] w λe w'=>e=.returned (.string (S (P.fmtS 47 st)))/\Bl w w':=by
 obtain⟨i0,hi,hz0,hz1,hz2⟩:=info_parts L.b2q
 have HUS:=qh hus;have HSL:=qh hs
 have hl60:=P.a4n hs
 obtain⟨sd,sap,rfl,_,_⟩:=hus
 clear hs
 go_enter func108,ntmps108
 have HOW:Hq (a0w w.heap.size (w.alloc (.cells #[] 9)) (.slice (some ⟨w.heap.size,0,none⟩) 0 0) []):=⟨by have h:=World.ownsRow_lit (base:=w.heap.size) (e:=9) (size:=1) w #[] 0 lZ (Nat.zero_le _) sZ;simpa [a0w,a3q] using h⟩
 have HB0:=qh ((Below.refl w.heap.size w).alloc lZ (.cells #[] 9))
 go_wp2
 go_loopw [3,11] (λv i wr=>∃k:Nat,k<=st.length/\i=.int .i64 k/\(∃ws,ws=(st.take k).map P.fmt/\a0w w.heap.size wr v ws)/\Bl w wr) (λ_ i _=>st.length-(intOf i).toNat)
 case atStart=>exact⟨0,Nat.zero_le _,rfl,⟨_,rfl,HOW.o⟩,HB0.o⟩
 case round=>
  obtain⟨k,hk,rfl,⟨ws,hws,hown⟩,hbel⟩:=hrel;have HOWN:=qh hown;have HBEL:=qh hbel;have HWS:=qh hws;have hsz:=HBEL.o.size;clear hown hbel hws HOW HB0
  by_cases hlt:k<st.length
  .obtain⟨m,hm,hms,hmd⟩:=P.a9c HSL.o hlt;have HMS:=qh hms;obtain⟨g,o,hga,hgl,c0⟩:=(HUS.o.below HBEL.o).at k hlt;subst hga;rw [hm]at c0;have HSN:Hq (ws++[P.fmt (m:Int)]=(st.take (k+1)).map P.fmt):=⟨by rw [HWS.o,a0g st k hlt,hm,List.map_append];rfl⟩;have i1:(k:Int)<(st.length:Int):=by omega
   clear hm hmd hms
   go_wp2_with fail
   refine (a3e m _ HMS.o).mono ?_;rintro e w1 ⟨rfl,hb⟩;have HO1:Hq (a0w w.heap.size w1 _ ws):=⟨a0i HOWN.o hb lZ⟩;have HB1:=qh (HBEL.o.trans (hb.mono hsz));have hsz1:w.heap.size<=w1.heap.size:=HB1.o.size;have hlm:ws.length<=60:=by rw [HWS.o,List.length_map,List.length_take];omega
   clear hb c0 hgl HOWN HBEL
   go_wp2_with (at_builtin;refine wpList_append_own _ rfl _ _ 43 rfl w.heap.size 9 i0 (.string ⟨#[]⟩) 1 16 underlying43 hi hz0 hz1 hz2 rfl dZ _ _ _ rfl (HO1.o.alloc _) ⟨w1.heap.size,0,none⟩ 1 1 [.string (S (P.fmt (m:Int)))] rfl rfl ?c1 ?c2 ?c3 ?c4 ?c5 ?_)
   case c1=>intro j u hj;match j,hj with|0,hj=>(simp at hj;subst hj;simp [Addr.add])
   case c2=>intro u hu;simp at hu;subst hu;rfl
   case c3=>unfold maxLen;omega
   case c4=>omega
   case c5=>simp;omega
   intro v' w2 hown' hgrow _;have R:=qh (L.b2c hsz1 HO1.o HB1.o hown' hgrow);clear hown' hgrow HO1 HB1;go_wp2
   go_roundw
   case rel=>
    repeat apply Exists.intro
    refine⟨?_,rfl⟩;exact⟨k+1,by omega,by go_num,⟨_,HSN.o,R.o.1⟩,R.o.2⟩
   case measure=>exact zq
  .have hkl:k=st.length:=by omega
   subst hkl;have HO1:Hq (a0w w.heap.size wr _ (st.map P.fmt)):=⟨by have h:=HOWN.o;rw [HWS.o,List.take_length]at h;exact h⟩;have HBL:=qh HBEL.o;have hjl:=P.a4w 47 st;clear HOWN HBEL
   go_wp2_with fail
   refine (c0s w.heap.size _ (st.map P.fmt) 47 _ HO1.o (by rw [List.length_map];omega) (by unfold P.fmtS at hjl;omega)).mono ?_;rintro e w1 ⟨rfl,hb⟩;have HB1:=qh (HBL.o.trans (hb.mono hsz));clear hb;go_wp2;go_ret;exact⟨rfl,HB1.o⟩
namespace P
theorem b7u (l:List Pc) (x:Pc):blank (l++[x])=if x.2=[] then blank l+1 else blank l:=by
 unfold blank;rw [List.filter_append,List.length_append]
 by_cases h:x.2=[]
 .rw [if_pos h,List.filter_cons_of_pos (by simp [h])];rfl
 .rw [if_neg h,List.filter_cons_of_neg (by simp [h])];rfl
theorem b4t (l:List Pc):blank l<=l.length:=List.length_filter_le _ _
theorem b2d {o:List Int} (h:a0j o=true):a3i o=true:=by
 unfold a0j at h;unfold a3i;simp only [Bool.and_eq_true,decide_eq_true_eq]at h⊢;exact⟨by omega,h.2⟩
end P
theorem d0l (u:Value) (l:List P.Pc) (w:World) (hu:PcR w u l) :
 Cz 231 #[u] w λe w'=>e=.returned (.int .i64 (P.blank l:Int))/\w=w':=by
 have HU:=qh hu
 obtain⟨ad,cap,rfl,hl,_⟩:=hu
 go_enter func231,ntmps231
 go_wp2
 go_loop [3,4] (λc i=>∃k:Nat,k<=l.length/\i=.int .i64 k/\c=.int .i64 (P.blank (l.take k):Int)) (λ_ i=>l.length-(intOf i).toNat)
 case atStart=>exact⟨0,Nat.zero_le _,rfl,rfl⟩
 case round=>
  obtain⟨k,hk,rfl,rfl⟩:=hrel
  by_cases hlt:k<l.length
  .obtain⟨g,o,hga,hgl,c0,c1,c2⟩:=HU.o.at k hlt;subst hga;have i1:(k:Int)<(l.length:Int):=by omega
   have HS:Hq (P.blank (l.take (k+1))=if l[k].2=[] then P.blank (l.take k)+1 else P.blank (l.take k)):=⟨by rw [a0g l k hlt,P.b7u]⟩;have hbl:=P.b4t (l.take k);have hbk:P.blank (l.take k)<=k:=by rw [List.length_take]at hbl;omega
   clear hbl;generalize P.blank (l.take k)=bk at *
   by_cases he:l[k].2=[]
   .rw [he]at c2;have HS2:=qh (HS.o.trans (if_pos he));clear HS he;go_wp2
    go_round
    case rel=>exact⟨k+1,by omega,by go_num,by rw [HS2.o];go_num⟩
    case measure=>exact zq
   .have f1:(l[k].2==[])=false:=by simpa using he
    have HS2:=qh (HS.o.trans (if_neg he));clear HS;generalize l[k].2=tx at *;go_wp2
    go_round
    case rel=>exact⟨k+1,by omega,by go_num,by rw [HS2.o]⟩
    case measure=>exact zq
  .have hkl:k=l.length:=by omega
   subst hkl;have HTL:=qh (List.take_length (l:=l))
   try rw [HTL.o]
   go_wp2;go_ret;exact⟨rfl,rfl⟩
theorem count_one (p:P.Pc) (w:World) :
 Cz 218 #[.agg #[.int .i64 p.1.1,.int .i64 p.1.2,.string (S p.2)]] w λe w'=>e=.returned (.bool p.2.isEmpty)/\Bl w w':=by
 have HB:=qh ((Below.refl w.heap.size w).alloc lZ (.cells #[.int .i64 p.1.1,.int .i64 p.1.2,.string (S p.2)] 173))
 obtain⟨⟨a,b⟩,t⟩:=p
 simp only at HB⊢
 go_enter func218,ntmps218
 go_wp2
 go_ret
 exact⟨rfl,HB.o⟩
theorem c5h (u:Value) (l:List P.Pc) (w:World) (hu:PcR w u l) (hl60:l.length<=60) :
 Cz 217 #[u,.func (Fn.func 218) #[] #[]] w
  λe w'=>(∃ad cap,e=.returned (.slice ad (P.blank l) cap))/\Bl w w':=by
 obtain⟨i0,hi,hz0,hz1,hz2⟩:=info_parts c4y
 have HU:=qh hu
 have HB0:=qh ((Below.refl w.heap.size w).alloc lZ (.cells #[] 173))
 have HO0:=qh (show OwnP w.heap.size (w.alloc (.cells #[] 173)) (.slice (some ⟨w.heap.size,0,none⟩) 0 0) [] by have h:=World.ownsRow_lit (base:=w.heap.size) (e:=173) (size:=3) w #[] 0 lZ (Nat.zero_le _) sZ;simpa [OwnP,a4t] using h)
 obtain⟨ad,cap,rfl,hl,_⟩:=hu
 go_enter func217,ntmps217
 go_wp2_with fail
 go_loopw [5,11] (λs i wr=>∃(j:Nat) (xs:List P.Pc),j<=l.length/\i=.int .i64 j/\xs.length=P.blank (l.take j)/\OwnP w.heap.size wr s xs/\Bl w wr) (λ_ i _=>l.length-(intOf i).toNat)
 case atStart=>exact⟨0,[],Nat.zero_le _,rfl,rfl,HO0.o,HB0.o⟩
 case round=>
  obtain⟨j,xs,hj,rfl,hxl,hown,hb⟩:=hrel;have HOW:=qh hown;have HB:=qh hb;have HZ:=qh hb.size;have HXL:=qh hxl;have hbl:=P.b4t (l.take j);have hxn:xs.length<=j:=by rw [List.length_take]at hbl;omega
  obtain⟨ua,uc,rfl⟩:=OwnP.form hown;clear hbl hown hxl HO0 HB0
  by_cases hlt:j<l.length
  .obtain⟨g,o,hga,hgl,c0,c1,c2⟩:=(HU.o.below hb).at j hlt;subst hga;have i1:(j:Int)<(l.length:Int):=by omega
   have HS:Hq (P.blank (l.take (j+1))=if l[j].2=[] then P.blank (l.take j)+1 else P.blank (l.take j)):=⟨by rw [a0g l j hlt,P.b7u]⟩;generalize l[j]=x at *;obtain⟨⟨a,b⟩,t⟩:=x;simp only at c0 c1 c2 HS;have hba:=(Below.refl wr.heap.size wr).alloc lZ (.cells #[.int .i64 a,.int .i64 b,.string (S t)] 173);have HBA:=qh hba;have d0:(wr.alloc (.cells #[.int .i64 a,.int .i64 b,.string (S t)] 173)).cell? ⟨wr.heap.size,0,none⟩=some (.int .i64 a):=by go_simp
   have d1:(wr.alloc (.cells #[.int .i64 a,.int .i64 b,.string (S t)] 173)).cell? ⟨wr.heap.size,1,none⟩=some (.int .i64 b):=by go_simp
   have d2:(wr.alloc (.cells #[.int .i64 a,.int .i64 b,.string (S t)] 173)).cell? ⟨wr.heap.size,2,none⟩=some (.string (S t)):=by go_simp
   have HDD:=qh (And.intro d0 (And.intro d1 d2));clear hb hba d0 d1 d2
   go_wp2_with fail
   refine (count_one ((a,b),t) _).mono ?_;rintro e v1 ⟨rfl,hb1⟩;have hzv:wr.heap.size+1<=v1.heap.size:=by have:=hb1.size;simp at this;omega
   have e0:=(hb1.cell (p:=⟨wr.heap.size,0,none⟩) sZ).trans HDD.o.1;have e1:=(hb1.cell (p:=⟨wr.heap.size,1,none⟩) sZ).trans HDD.o.2.1;have e2:=(hb1.cell (p:=⟨wr.heap.size,2,none⟩) sZ).trans HDD.o.2.2;have HB1:=qh (HBA.o.trans (hb1.mono sZ));have HBW:=qh (HB.o.trans (HB1.o.mono HZ.o));have HOW1:=qh (a0i HOW.o HB1.o lZ);clear hb1 HBA HDD c0 c1 c2
   by_cases ht:t=[]
   .have HS2:=qh (HS.o.trans (if_pos ht));have f1:t.isEmpty=true:=by rw [ht];rfl
    have HOA:Hq ((v1.alloc (.cells #[.int .i64 a,.int .i64 b,.string (S t)] 173)).ownsRow w.heap.size 173 3 (.slice ua xs.length uc) xs.length (a4t xs)):=⟨World.ownsRow.alloc HOW1.o _⟩;have HZ1:=qh HBW.o.size;simp only [f1];clear ht HS f1
    go_wp2_with (at_builtin;refine wpList_append_own _ rfl _ _ 115 rfl w.heap.size 173 i0 (.agg #[.int .i64 0,.int .i64 0,.string ⟨#[]⟩]) 3 32 underlying115 hi hz0 hz1 hz2 rfl dZ (.slice ua xs.length uc) xs.length (a4t xs) rfl HOA.o ⟨v1.heap.size,0,none⟩ 1 1 [.int .i64 a,.int .i64 b,.string (S t)] rfl rfl ?_ ?_ ?_ ?_ ?_ ?_)
    all_goals first|exact⟨rfl,rfl⟩|(intro z hz;simp only [List.mem_cons,List.not_mem_nil,or_false]at hz;rcases hz with rfl|rfl|rfl<;>rfl)|(unfold maxLen;omega)|omega|(have h1:=HZ1.o;simp;omega)|(intro i z hz;rcases i with _|_|_|i;(injection hz with hz;subst hz;rw [add0];go_simp);(injection hz with hz;subst hz;rw [add0];go_simp);(injection hz with hz;subst hz;rw [add0];go_simp);cases hz)|skip
    intro u4 w4 hown hgr _;have HO4:=qh (show OwnP w.heap.size w4 u4 (xs++[((a,b),t)]) by unfold OwnP;rw [List.length_append,b6f];exact hown);have HB4:=qh ((HBW.o.alloc HBW.o.size _).grown hgr (by have:=HZ1.o;simp;omega) (λk hk=>(World.ownsRow.lt HOA.o k hk).1));clear hown hgr e0 e1 e2;go_wp2
    go_roundw
    case rel=>exact⟨j+1,xs++[((a,b),t)],by omega,by go_num,by rw [HS2.o,List.length_append,HXL.o];rfl,HO4.o,HB4.o⟩
    case measure=>exact zq
   .have HS2:=qh (HS.o.trans (if_neg ht))
    have f1:t.isEmpty=false:=by cases t with
     |nil=>exact absurd rfl ht
     |cons _ _=>rfl
    simp only [f1];clear ht HS f1;go_wp2
    go_roundw
    case rel=>exact⟨j+1,xs,by omega,by go_num,by rw [HS2.o];exact HXL.o,HOW1.o,HBW.o⟩
    case measure=>exact zq
  .have hjl:j=l.length:=by omega
   subst hjl;have HX2:=qh (show xs.length=P.blank l by rw [HXL.o,List.take_length]);clear hb;go_wp2;go_ret;exact⟨⟨ua,uc,by rw [<-HX2.o];rfl⟩,HB.o⟩
theorem d0j (u:Value) (l:List P.Pc) (w:World) (hu:PcR w u l) (hl60:l.length<=60) :
 Cz 146 #[u] w λe w'=>e=.returned (.int .i64 (P.blank l:Int))/\Bl w w':=by
 have HU:=qh hu
 obtain⟨ad,cap,rfl,hl,_⟩:=hu
 go_enter func146,ntmps146
 go_wp2_with fail
 refine (c5h _ l _ HU.o hl60).mono ?_
 rintro e w1 ⟨⟨ua,uc,rfl⟩,hb⟩
 have HB:=qh hb
 clear hb
 go_wp2
 go_ret
 exact⟨rfl,HB.o⟩
theorem b1l (u:Value) (o:List Int) (w:World) (hu:IntR w u o) (ho:P.a0j o=true) :
 Cz 118 #[u] w λe w'=>e=.returned (.string (S (P.fmtS 47 o)))/\Bl w w':=by
 have HU:=qh hu;have HSL:=qh (P.b2d ho)
 have hs6:=(P.a1i ho).2
 obtain⟨ad,cap,rfl,_,_⟩:=hu
 clear ho
 go_enter func118,ntmps118
 go_wp2
 go_loopw [3,4] (λv i wr=>∃k:Nat,k<=o.length/\i=.int .i64 k/\v=.string (S (P.fmtS 47 (o.take k)))/\Bl w wr) (λ_ i _=>o.length-(intOf i).toNat)
 case atStart=>exact⟨0,Nat.zero_le _,rfl,rfl,Below.refl _ _⟩
 case round=>
  obtain⟨k,hk,rfl,rfl,hbk⟩:=hrel;have HBK:=qh hbk;clear hbk
  by_cases hlt:k<o.length
  .obtain⟨m,hm',hms,hmd⟩:=P.a9c HSL.o hlt;have HM:=qh (show m<2^23 by unfold P.a0q at hms;simp only [decide_eq_true_eq]at hms;omega);obtain⟨g,p,hga,hgl,d0⟩:=(HU.o.below HBK.o).at k hlt;subst hga;rw [hm']at d0;have i1:(k:Int)<(o.length:Int):=by omega
   have hfl:=P.a4w 47 (o.take k);have htk:(o.take k).length=k:=by rw [List.length_take];omega
   have HFM:=qh (P.a7j (m:Int));have hfl2:(P.fmtS 47 (o.take k)).length<=2820:=by rw [htk]at hfl;omega
   clear hfl
   by_cases hk0:k=0
   .subst hk0;have HSN:Hq (P.fmtS 47 (o.take (0+1))=P.fmtS 47 (o.take 0)++P.fmt (m:Int)):=⟨by rw [a0g o 0 hlt,hm'];exact P.d9v 47 (m:Int)⟩;clear hm' hmd hms htk;rw [Nat.add_zero]at d0;generalize P.fmtS 47 (o.take 0)=ff at *
    go_wp2_with fail
    refine (a9i m _ HM.o).mono ?_;rintro e w2 ⟨rfl,hb⟩;have HB2:=bt HBK hb;have hfm:=HFM.o;generalize P.fmt (m:Int)=fm at *;have j1:¬9223372036854775807<ff.length+fm.length:=by omega
    clear hb d0 HBK;go_wp2
    go_roundw
    case rel=>
     repeat apply Exists.intro
     refine⟨?_,rfl⟩;exact⟨0+1,by omega,by go_num,by rw [HSN.o],HB2.o⟩
    case measure=>exact zq
   .have HSN:Hq (P.fmtS 47 (o.take (k+1))=P.fmtS 47 (o.take k)++[47]++P.fmt (m:Int)):=⟨by rw [a0g o k hlt,hm'];exact P.d5j 47 _ _ (λh=>by rw [h]at htk;simp at htk;omega)⟩;have i2:(0:Int)<(k:Int):=by omega
    clear hm' hmd hms;generalize P.fmtS 47 (o.take k)=ff at *;have j0:¬9223372036854775807<ff.length+1:=by omega
    go_wp2_with fail
    refine (a9i m _ HM.o).mono ?_;rintro e w2 ⟨rfl,hb⟩;have HB2:=bt HBK hb;have hfm:=HFM.o;generalize P.fmt (m:Int)=fm at *;have j1:¬9223372036854775807<ff.length+1+fm.length:=by omega
    clear hb d0 HBK;go_wp2
    go_roundw
    case rel=>
     repeat apply Exists.intro
     refine⟨?_,rfl⟩;exact⟨k+1,by omega,by go_num,by rw [HSN.o];simp,HB2.o⟩
    case measure=>exact zq
  .have hkl:k=o.length:=by omega
   subst hkl;have HTL:=qh (List.take_length (l:=o))
   try rw [HTL.o]
   go_wp2;go_ret;exact⟨rfl,HBK.o⟩
def d9s (B C K:Nat) (w:World) (e:Ending) (w':World):Prop:=∃m:Nat,m<2^23/\e=.returned (.int .i64 (m:Int))/\a0d B C K w w'
theorem e1f:∀x∈([524552,260,1048576,262144]:List Int),((x.toNat:Int)==x&&decide (x.toNat<2^23))=true:=by decide
theorem d9n (B C K:Nat) (w:World) (hK:K<2^38) (h:a1o B C K w) :
 Cz 117 #[.pointer (some ⟨C,0,none⟩)] w (d9s B C (K+2) w):=by
 refine zm86 ?_;intro hlt HC HL;clear h;go_enter func117,ntmps117;go_wp2_with fail;refine (b2n B C K w.heap.size 4 [524552,260,1048576,262144] _ oZ dZ dZ sZ oZ HL.o HC.o.1).mono ?_;rintro e w1 ⟨s,hs,rfl,hc⟩;have H1:=qh (HC.o.trans hc);have HS:=qh (e1f s hs);clear hc hs;go_wp2;go_ret;have h1:=HS.o;simp only [Bool.and_eq_true,beq_iff_eq,decide_eq_true_eq]at h1;refine⟨s.toNat,h1.2,?_,H1.o⟩;rw [h1.1];rfl
structure CmSt (B C K:Nat) (w:World) (D lo hi:Nat) (u:Value) (l:P.Dic) (v:World):Prop where
 cur:a0d B C K w v
 bx:DBx D u v
 rd:a5q lo hi v u l
 low:C<lo/\C<D/\D<v.heap.size
theorem CmSt.draw {K':Nat} (h:CmSt B C K w D lo hi u l v) (hc:a0d B C K' v v'):CmSt B C K' w D lo hi u l v':=
 ⟨h.cur.trans hc,h.bx.a0b hc.2 (by have:=h.low;omega),h.rd.chg hc.2 (λb h1 h2 e=>by have:=h.low;omega),h.low.1,h.low.2.1,Nat.lt_of_lt_of_le h.low.2.2 hc.2.size⟩
theorem CmSt.call (h:CmSt B C K w D lo hi u l v) (hb:Bl v v'):CmSt B C K w D lo hi u l v':=
 ⟨h.cur.below hb,h.bx.below hb,h.rd.chg (Below.chg hb (λ_=>False)) (λ_ _ _ h=>h),h.low.1,h.low.2.1,Nat.lt_of_lt_of_le h.low.2.2 hb.size⟩
theorem b5g (B C N lo hi:Nat) (u:Value) (l:P.Dic) (w:World) (hN:N<2^30) (h:a1o B C N w) (hr:a5q lo hi w u l) (hlo:C<lo) (hd:a8a l) :
 Cz 52 #[.pointer (some ⟨C,0,none⟩),.agg #[u]] w (a8k B C (N+300) 700 w):=by
 have hlt:=h.lt
 have hl60:=hd.len
 have HDR:=qh hd
 obtain⟨ad,cap,rfl,_,_⟩:=hr.now
 have hba:=(Below.refl w.heap.size w).alloc lZ (.cells #[.slice ad l.length cap] 26)
 have HM:=qh (show CmSt B C N w w.heap.size lo hi (.slice ad l.length cap) l (w.alloc (.cells #[.slice ad l.length cap] 26)) from⟨(a0d.refl h (Nat.le_refl N)).below hba,DBx.new _ _ _,hr.chg (Below.chg hba (λ_=>False)) (λ_ _ _ h=>h),hlo,hlt.2,by simp⟩)
 clear h hr hba hd
 go_enter func52,ntmps52
 go_upto_region 1 with fail
 generalize w.alloc (.cells #[.slice ad l.length cap] 26)=W0 at *
 obtain⟨b0,_⟩:=HM.o.bx
 go_wp2_with fail
 refine (d1u B C N lo hi _ l _ oZ HM.o.cur.1 HM.o.rd hlo HDR.o).mono ?_
 rintro e w1 ⟨o,y,rfl,hol,hI,hc⟩
 obtain⟨yd,yc,rfl,_,_⟩:=id hI
 have H1:=qh (HM.o.draw hc)
 have HR1:Hq (a6p W0.heap.size w1.heap.size w1 (.slice yd o.length yc) o):=⟨hI.d8z (λb hb=>hb) lZ⟩
 have hzw:C<W0.heap.size:=by have:=HM.o.low;omega
 have hz01:W0.heap.size<=w1.heap.size:=hc.2.size
 clear hI hc HM b0
 go_wp2_with fail
 refine (d6d _ o _ HR1.o.now).mono ?_
 rintro e w2 ⟨rfl,rfl⟩
 have HQ:Hq (∀b,P.a0j o=b->P.a0j o=b):=⟨λ_ h=>h⟩
 generalize hq:P.a0j o=q at *
 go_upto_if 11 with fail
 go_cut [5] (λs wx=>∃(o:List Int) (a:Option Addr) (c:Nat),s=.slice a o.length c/\P.a0j o=true/\a6p W0.heap.size wx.heap.size wx (.slice a o.length c) o/\CmSt B C (N+200) w w.heap.size lo hi (.slice ad l.length cap) l wx)
 case first=>
  cases q
  .have HOW:=qh (World.ownsRow_lit (base:=w1.heap.size) (e:=3) (size:=1) w1 #[.int .i64 1048576] 1 lZ (by unfold maxLen;decide) sZ);have H2:=qh (H1.o.call ((Below.refl w1.heap.size w1).alloc lZ (.cells #[.int .i64 1048576] 3)));clear H1 HR1 hq;go_wp2;go_meet;exact⟨[1048576],_,_,rfl,by decide,(a2h HOW.o dZ).d8z (λb hb=>⟨Nat.le_trans hz01 hb.1,hb.2⟩) lZ,H2.o⟩
  .go_wp2;go_meet;exact⟨o,_,_,rfl,hq,HR1.o,H1.o⟩
 case rest=>
  clear HR1 H1 hq HQ hol;obtain⟨o,a,c,rfl,hok,hri,hst⟩:=hcut;have HOK:=qh hok;have HRI:=qh hri;have H2:=qh hst;have ho6:=(P.a1i hok).2;clear hok hri hst
  go_wp2_with fail
  refine (a0y B C (N+200) 12 _ oZ dZ H2.o.cur.1).mono ?_;rintro e w3 ⟨p,hp,rfl,hc⟩;have hp12:p<12:=by omega
  have H3:=qh (H2.o.draw hc);have HR3:=qh (HRI.o.chg hc.2 (λb h1 h2 e=>by omega));clear hc hp H2 HRI
  match p,hp12 with
  |0,_=>
   exact zq82
  |1,_=>
   exact zq82
  |2,_=>
   exact zq93
  |3,_=>
   exact zq93
  |4,_=>
   go_wp2;go_ret;exact⟨_,rfl,by simp,H3.o.cur.mono oZ⟩
  |5,_=>
   go_wp2_with fail
   refine (b1l _ o _ HR3.o.now HOK.o).mono ?_;rintro e w4 ⟨rfl,hb⟩;have H4:=qh (H3.o.call hb);have hfl:=P.a4w 47 o;clear hb
   go_wp2_with fail
   refine (a8r B C (N+202) _ oZ H4.o.cur.1).mono ?_;rintro e w5 ⟨t,rfl,htl,hc⟩;have H5:=qh (H4.o.draw hc);clear hc;exact zq98
  |6,_=>
   have HL:=qh (a1p [[100,101,108,101,116,101,32],[108,111,111,107,117,112,32]] w3 9);have HCA:=qh (H3.o.call ((Below.refl w3.heap.size w3).alloc lZ (.cells #[.string (S [100,101,108,101,116,101,32]),.string (S [108,111,111,107,117,112,32])] 9)));have hzl:C<w3.heap.size:=by have:=H3.o.low;omega
   go_wp2_with fail
   refine (a3y B C (N+202) w3.heap.size 2 [[100,101,108,101,116,101,32],[108,111,111,107,117,112,32]] _ oZ dZ dZ sZ oZ HL.o HCA.o.cur.1).mono ?_;rintro e w4 ⟨s,hs,rfl,hc⟩;have HR4:=qh ((HR3.o.chg (Below.chg ((Below.refl w3.heap.size w3).alloc lZ (.cells #[.string (S [100,101,108,101,116,101,32]),.string (S [108,111,111,107,117,112,32])] 9)) (λ_=>False)) (λ_ _ _ h=>h)).chg hc.2 (λb h1 h2 e=>by omega));have HS:Hq (s.length<=20):=⟨(by decide:∀s∈([[100,101,108,101,116,101,32],[108,111,111,107,117,112,32]]:List Str),s.length<=20) s hs⟩;have H4:=qh (HCA.o.draw hc);clear hc hs HL HCA
   go_wp2_with fail
   refine (b1l _ o _ HR4.o.now HOK.o).mono ?_;rintro e w5 ⟨rfl,hb⟩;have H5:=qh (H4.o.call hb);have hfl:=P.a4w 47 o;have hsl:=HS.o;clear hb;exact zq98
  |7,_=>
   by_cases hpos:0<l.length
   .have hpi:(0:Int)<(l.length:Int):=by omega
    obtain⟨b0,_⟩:=H3.o.bx;have H3d:=qh (H3.o.call (Below.refl w3.heap.size w3).drew);clear H3 HR3;go_upto_region 19 with fail;refine wp_region_held_drew (S:=DBx w.heap.size (.slice ad l.length cap)) kZ H3d.o.bx (λhS0=>?_);clear b0;generalize w3.drew=v0 at *;refine zm49 ?_;refine trd 6 λK hK=>?_;go_simp;refine (a0y B C (N+202) l.length _ oZ oZ H3d.o.cur.1).mono ?_;rintro e v1 ⟨i,hi',rfl,hc⟩;have hil:i<l.length:=by omega
    have H4:=qh (H3d.o.draw hc);refine hK.out _ _ H4.o.bx (λhS1=>?_);clear hK K hc hi' H3d hS0;obtain⟨g,o2,rfl,hg,x,c0,c1,hx⟩:=H4.o.rd.now.at i hil;clear hx c0;have htl:=HDR.o.texts _ (List.getElem_mem hil);have i1:(i:Int)<(l.length:Int):=by omega
    generalize l[i]=en at *;obtain⟨eo,et⟩:=en;simp only at c1 htl;refine zm0 ?_;refine tk5 7 (v:=.pointer (some ⟨g,o2+i*2,none⟩)) hS1 ?_;refine tk5 8 (v:=.pointer (some ⟨g,o2+i*2+1,none⟩)) hS1 ?_;refine trd 9 λK hK=>?_;go_simp;refine hK.out _ _ hS1 (λhS2=>?_);clear hK K;refine zm0 ?_;have f1:¬9223372036854775807<8+et.length:=by omega
    refine tk5 10 hS2 ?_;refine tk5 11 hS2 ?_;refine wpAnyH_done kZ ?_ _;clear hS1 hS2;exact e2q
   .have hpi:¬(0:Int)<(l.length:Int):=by omega
    obtain⟨b0,_⟩:=H3.o.bx;go_wp2;go_ret;exact⟨_,rfl,by simp,H3.o.cur.mono oZ⟩
  |8,_=>
   go_wp2_with fail
   refine (c0r B C (N+202) _ oZ H3.o.cur.1).mono ?_;rintro e w4 ⟨s,rfl,hsl,hc⟩;have H4:=qh (H3.o.draw hc);clear hc
   go_wp2_with fail
   refine (c9q B C (N+204) _ oZ H4.o.cur.1).mono ?_;rintro e w5 ⟨t,rfl,htl,hc⟩;have H5:=qh (H4.o.draw hc);clear hc;exact zq98
  |9,_=>
   have HL:=qh (a1p [[84,83],[75,65,45,84],[83,45,83],[],[83,84,83],[90,83]] w3 9);have HCA:=qh (H3.o.call ((Below.refl w3.heap.size w3).alloc lZ (.cells #[.string (S [84,83]),.string (S [75,65,45,84]),.string (S [83,45,83]),.string (S []),.string (S [83,84,83]),.string (S [90,83])] 9)));have hzl:C<w3.heap.size:=by have:=H3.o.low;omega
   go_wp2_with fail
   refine (a3y B C (N+202) w3.heap.size 6 [[84,83],[75,65,45,84],[83,45,83],[],[83,84,83],[90,83]] _ oZ dZ dZ sZ oZ HL.o HCA.o.cur.1).mono ?_;rintro e w4 ⟨s,hs,rfl,hc⟩;have HS:Hq (s.length<=20):=⟨(by decide:∀s∈([[84,83],[75,65,45,84],[83,45,83],[],[83,84,83],[90,83]]:List Str),s.length<=20) s hs⟩;have H4:=qh (HCA.o.draw hc);clear hc hs HL HCA;have hsl:=HS.o;exact e2q
  |10,_=>
   have HL:=qh (a1p [[],[119,104,97,116],[112,114,101,115,115],[112,114,101,115,115,32,84,83],[100,101,102,105,110,101,32,75,65,84],[117,110,100,111,32,110,111,119],[106,111,105,110,32,97],[97,62,98],[112,114,101,115,115,32,42],[116,121,112,101,32,42,47,42],[114,101,118,101,114,115,101,32,123],[115,99,114,101,101,110,32]] w3 9);have HCA:=qh (H3.o.call ((Below.refl w3.heap.size w3).alloc lZ (.cells #[.string (S []),.string (S [119,104,97,116]),.string (S [112,114,101,115,115]),.string (S [112,114,101,115,115,32,84,83]),.string (S [100,101,102,105,110,101,32,75,65,84]),.string (S [117,110,100,111,32,110,111,119]),.string (S [106,111,105,110,32,97]),.string (S [97,62,98]),.string (S [112,114,101,115,115,32,42]),.string (S [116,121,112,101,32,42,47,42]),.string (S [114,101,118,101,114,115,101,32,123]),.string (S [115,99,114,101,101,110,32])] 9)));have hzl:C<w3.heap.size:=by have:=H3.o.low;omega
   go_wp2_with fail
   refine (a3y B C (N+202) w3.heap.size 12 [[],[119,104,97,116],[112,114,101,115,115],[112,114,101,115,115,32,84,83],[100,101,102,105,110,101,32,75,65,84],[117,110,100,111,32,110,111,119],[106,111,105,110,32,97],[97,62,98],[112,114,101,115,115,32,42],[116,121,112,101,32,42,47,42],[114,101,118,101,114,115,101,32,123],[115,99,114,101,101,110,32]] _ oZ dZ dZ sZ oZ HL.o HCA.o.cur.1).mono ?_;rintro e w4 ⟨s,hs,rfl,hc⟩;have HS:Hq (s.length<=20):=⟨(by decide:∀s∈([[],[119,104,97,116],[112,114,101,115,115],[112,114,101,115,115,32,84,83],[100,101,102,105,110,101,32,75,65,84],[117,110,100,111,32,110,111,119],[106,111,105,110,32,97],[97,62,98],[112,114,101,115,115,32,42],[116,121,112,101,32,42,47,42],[114,101,118,101,114,115,101,32,123],[115,99,114,101,101,110,32]]:List Str),s.length<=20) s hs⟩;exact zq154
  |11,_=>
   have HL:=qh (a1p [[115,99,114,101,101,110],[99,111,117,110,116],[112,105,101,99,101,115],[115,99,114,101,101,110]] w3 9);have HCA:=qh (H3.o.call ((Below.refl w3.heap.size w3).alloc lZ (.cells #[.string (S [115,99,114,101,101,110]),.string (S [99,111,117,110,116]),.string (S [112,105,101,99,101,115]),.string (S [115,99,114,101,101,110])] 9)));have hzl:C<w3.heap.size:=by have:=H3.o.low;omega
   go_wp2_with fail
   refine (a3y B C (N+202) w3.heap.size 4 [[115,99,114,101,101,110],[99,111,117,110,116],[112,105,101,99,101,115],[115,99,114,101,101,110]] _ oZ dZ dZ sZ oZ HL.o HCA.o.cur.1).mono ?_;rintro e w4 ⟨s,hs,rfl,hc⟩;have HS:Hq (s.length<=20):=⟨(by decide:∀s∈([[115,99,114,101,101,110],[99,111,117,110,116],[112,105,101,99,101,115],[115,99,114,101,101,110]]:List Str),s.length<=20) s hs⟩;exact zq154
end Go.Proofs.YtggfdnopminemaaGreatDoor
