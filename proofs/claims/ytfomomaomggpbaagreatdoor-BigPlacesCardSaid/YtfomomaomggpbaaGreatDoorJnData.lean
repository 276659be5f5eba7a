/- Plain. -/
import Derived.WalkKit
import Derived.Deep.Draws
set_option linter.all false
namespace Go.Proofs.YtfomomaomggpbaaGreatDoor
open Go.RowKit
/-- a fact laid behind Hid; a thing named -/
theorem aA {p:Prop}(h:p):Hid p:=h
theorem aF {α:Type}(a:α):∃x,x=a:=⟨a,rfl⟩
theorem aM {a b c:Nat}(h:a<b)(k:b<=c):a<c:=Nat.lt_of_lt_of_le h k
theorem aK {a b c:Nat}(h:a<=b)(k:b<=c):a<=c:=Nat.le_trans h k
theorem aL (a:Nat):a<=a:=Nat.le_refl a
theorem aG {p q:Prop}(h:p)(k:q):p/\q:=⟨h,k⟩
inductive Exs where
 |nil
 |cons (k:Int) (nm:ByteArray) (n:Int) (args:Exs) (at_:Int) (rest:Exs)
def Exs.len:Exs->Nat
 | .nil =>0
 | .cons _ _ _ _ _ rest=>rest.len+1
def Exs.drop:Nat->Exs->Exs
 |0,xs=>xs
 |_+1,.nil => .nil
 |k+1,.cons _ _ _ _ _ rest=>Exs.drop k rest
theorem Exs.len_drop:∀(k:Nat)(xs:Exs),(Exs.drop k xs).len =xs.len - k
 |0,xs=>by simp[Exs.drop]
 |k+1,.nil =>by simp[Exs.drop,Exs.len]
 |k+1,.cons _ _ _ _ _ rest=>by simp[Exs.drop,Exs.len,Exs.len_drop k rest]
theorem Exs.drop_succ:∀(k:Nat)(xs:Exs) {a b c d e f},Exs.drop k xs= .cons a b c d e f->Exs.drop (k+1) xs=f
 |0,.cons _ _ _ _ _ _,_,_,_,_,_,_,h=>by simp only[Exs.drop]at h ⊢;injection h
 |0,.nil,_,_,_,_,_,_,h=>by simp[Exs.drop]at h
 |k+1,.nil,_,_,_,_,_,_,h=>by simp[Exs.drop]at h
 |k+1,.cons _ _ _ _ _ rest,_,_,_,_,_,_,h=>by simp only[Exs.drop]at h ⊢;exact Exs.drop_succ k rest h
theorem Exs.drop_cons {k:Nat}{xs:Exs}(h:k < xs.len):∃a b c d e f,Exs.drop k xs= .cons a b c d e f:=by
 have:=Exs.len_drop k xs;cases hx:Exs.drop k xs with
 |nil=>rw[hx]at this;simp[Exs.len]at this;omega
 |cons a b c d e f=>exact⟨a,b,c,d,e,f,rfl⟩
theorem Exs.drop_nil {k:Nat}{xs:Exs}(h:xs.len<=k):Exs.drop k xs= .nil :=by
 have:=Exs.len_drop k xs;cases hx:Exs.drop k xs with
 |nil=>rfl
 |cons a b c d e f=>rw[hx]at this;simp[Exs.len]at this;omega
def in64 (n:Int):Prop:= -9223372036854775808<=n/\n<=9223372036854775807
def in8 (n:Int):Prop:=0<=n/\n<=255
def Same (B:Nat)(w w':World):Prop:=∀p:Addr,p.block < B->w'.cell? p=w.cell? p
theorem Same.of {B B':Nat}{w w':World}(h:Below B' w w')(hB:B<=B'):Same B w w':=λ_ hp=>h.cell (Nat.lt_of_lt_of_le hp hB)
def exV (k:Int)(nm:ByteArray)(n:Int)(A:Option Addr)(l c:Nat)(at_:Int):Value:= .agg #[.int .u8 k,.string nm,.int .i64 n,.slice A l c,.int .i64 at_]
def zcG (b:Bool)(W:World)(e:Ending)(w':World):Prop:=e= .returned (.bool b)/\Below W.heap.size W w'
end Go.Proofs.YtfomomaomggpbaaGreatDoor
namespace Go.Proofs.YtfomomaomggpbaaGreatDoor
open Go.RowKit
inductive Cds where
 |nil
 |cons (k:Int) (args:Exs) (of_:Cds) (at_:Int) (rest:Cds)
inductive Sts where
 |nil
 |cons (k:Int) (nm:ByteArray) (args:Exs) (cond:Cds) (body els:Sts) (at_:Int) (rest:Sts)
structure Va where
 nm:ByteArray
 at_:Int
structure Arr where
 nm:ByteArray
 size:Int
 at_:Int
structure Prc where
 nm:ByteArray
 params:List Va
 body:Sts
 at_:Int
structure Tre where
 vars:List Va
 arrays:List Arr
 procs:List Prc
 main:Sts
def Cds.len:Cds->Nat
 | .nil =>0
 | .cons _ _ _ _ rest=>rest.len+1
def Cds.drop:Nat->Cds->Cds
 |0,xs=>xs
 |_+1,.nil => .nil
 |k+1,.cons _ _ _ _ rest=>Cds.drop k rest
theorem Cds.len_drop:∀(k:Nat)(xs:Cds),(Cds.drop k xs).len =xs.len - k
 |0,xs=>by simp[Cds.drop]
 |k+1,.nil =>by simp[Cds.drop,Cds.len]
 |k+1,.cons _ _ _ _ rest=>by simp[Cds.drop,Cds.len,Cds.len_drop k rest]
theorem Cds.drop_succ:∀(k:Nat)(xs:Cds) {a b c d f},Cds.drop k xs= .cons a b c d f->Cds.drop (k+1) xs=f
 |0,.cons _ _ _ _ _,_,_,_,_,_,h=>by simp only[Cds.drop]at h ⊢;injection h
 |0,.nil,_,_,_,_,_,h=>by simp[Cds.drop]at h
 |k+1,.nil,_,_,_,_,_,h=>by simp[Cds.drop]at h
 |k+1,.cons _ _ _ _ rest,_,_,_,_,_,h=>by simp only[Cds.drop]at h ⊢;exact Cds.drop_succ k rest h
theorem Cds.drop_cons {k:Nat}{xs:Cds}(h:k < xs.len):∃a b c d f,Cds.drop k xs= .cons a b c d f:=by
 have:=Cds.len_drop k xs;cases hx:Cds.drop k xs with
 |nil=>rw[hx]at this;simp[Cds.len]at this;omega
 |cons a b c d f=>exact⟨a,b,c,d,f,rfl⟩
theorem Cds.drop_nil {k:Nat}{xs:Cds}(h:xs.len<=k):Cds.drop k xs= .nil :=by
 have:=Cds.len_drop k xs;cases hx:Cds.drop k xs with
 |nil=>rfl
 |cons a b c d f=>rw[hx]at this;simp[Cds.len]at this;omega
def Sts.len:Sts->Nat
 | .nil =>0
 | .cons _ _ _ _ _ _ _ rest=>rest.len+1
def Sts.drop:Nat->Sts->Sts
 |0,xs=>xs
 |_+1,.nil => .nil
 |k+1,.cons _ _ _ _ _ _ _ rest=>Sts.drop k rest
theorem Sts.len_drop:∀(k:Nat)(xs:Sts),(Sts.drop k xs).len =xs.len - k
 |0,xs=>by simp[Sts.drop]
 |k+1,.nil =>by simp[Sts.drop,Sts.len]
 |k+1,.cons _ _ _ _ _ _ _ rest=>by simp[Sts.drop,Sts.len,Sts.len_drop k rest]
theorem Sts.drop_succ:∀(k:Nat)(xs:Sts) {a b c d e f g h'},Sts.drop k xs= .cons a b c d e f g h'->Sts.drop (k+1) xs=h'
 |0,.cons _ _ _ _ _ _ _ _,_,_,_,_,_,_,_,_,h=>by simp only[Sts.drop]at h ⊢;injection h
 |0,.nil,_,_,_,_,_,_,_,_,h=>by simp[Sts.drop]at h
 |k+1,.nil,_,_,_,_,_,_,_,_,h=>by simp[Sts.drop]at h
 |k+1,.cons _ _ _ _ _ _ _ rest,_,_,_,_,_,_,_,_,h=>by simp only[Sts.drop]at h ⊢;exact Sts.drop_succ k rest h
theorem Sts.drop_cons {k:Nat}{xs:Sts}(h:k < xs.len):∃a b c d e f g h',Sts.drop k xs= .cons a b c d e f g h':=by
 have:=Sts.len_drop k xs;cases hx:Sts.drop k xs with
 |nil=>rw[hx]at this;simp[Sts.len]at this;omega
 |cons a b c d e f g h'=>exact⟨a,b,c,d,e,f,g,h',rfl⟩
theorem Sts.drop_nil {k:Nat}{xs:Sts}(h:xs.len<=k):Sts.drop k xs= .nil :=by
 have:=Sts.len_drop k xs;cases hx:Sts.drop k xs with
 |nil=>rfl
 |cons a b c d e f g h'=>rw[hx]at this;simp[Sts.len]at this;omega
def SameS (S:Nat->Prop)(w w':World):Prop:=∀p:Addr,S p.block->w'.cell? p=w.cell? p/\w'.frozen? p=w.frozen? p
theorem SameS.refl (S:Nat->Prop)(w:World):SameS S w w:=λ_ _=>⟨rfl,rfl⟩
def SlR (at_:Nat->Nat->Prop)(len sz:Nat)(A:Option Addr)(c:Nat):Prop:=len<=c/\(c<=9223372036854775807/\len*sz<=140737488355328)/\(0 < len->∃b o,A=some ⟨b,o,none⟩/\at_ b o)
theorem sl0:0<=9223372036854775807/\0*64<=140737488355328:=by decide
theorem sl1:1<=9223372036854775807/\1*64<=140737488355328:=by decide
theorem sl2:2<=9223372036854775807/\2*64<=140737488355328:=by decide
theorem SlR.imp {P Q:Nat->Nat->Prop}{len sz:Nat}{A:Option Addr}{c:Nat}(h:SlR P len sz A c)(k:∀b o,P b o->Q b o):SlR Q len sz A c:=
 ⟨h.1,h.2.1,λhp=>by obtain⟨b,o,e,hh⟩:=h.2.2 hp;exact⟨b,o,e,k b o hh⟩⟩
def Free (w:World)(Z:Prop)(b o n:Nat):Prop:=Z->∀j,j < n->w.frozen? ⟨b,o+j,none⟩=false
theorem Free.keep {S:Nat->Prop}{w w':World}{Z:Prop}{b o n:Nat}(hs:SameS S w w')(hb:S b)(h:Free w Z b o n):Free w' Z b o n:=λhz j hj=>((hs ⟨b,o+j,none⟩ hb).2).trans (h hz j hj)
def ExR (w:World)(S:Nat->Prop)(Z:Prop):Exs->Nat->Nat->Prop
 | .nil,_,_=>True
 | .cons k nm n args at_ rest,b,o=>
  (S b/\Free w Z b o 5/\in8 k/\in64 n/\in64 at_/\w.cell? ⟨b,o,none⟩=some (.int .u8 k)/\w.cell? ⟨b,o+1,none⟩=some (.string nm)/\w.cell? ⟨b,o+2,none⟩=some (.int .i64 n)/\w.cell? ⟨b,o+4,none⟩=some (.int .i64 at_))/\
   (∃A c,w.cell? ⟨b,o+3,none⟩=some (.slice A args.len c)/\SlR (λb' o'=>ExR w S Z args b' o') args.len 64 A c)/\ExR w S Z rest b (o+5)
def CdR (w:World)(S:Nat->Prop)(Z:Prop):Cds->Nat->Nat->Prop
 | .nil,_,_=>True
 | .cons k args of_ at_ rest,b,o=>
  (S b/\Free w Z b o 4/\in8 k/\in64 at_/\w.cell? ⟨b,o,none⟩=some (.int .u8 k)/\w.cell? ⟨b,o+3,none⟩=some (.int .i64 at_))/\
   (∃A c,w.cell? ⟨b,o+1,none⟩=some (.slice A args.len c)/\SlR (λb' o'=>ExR w S Z args b' o') args.len 64 A c)/\
   (∃A c,w.cell? ⟨b,o+2,none⟩=some (.slice A of_.len c)/\SlR (λb' o'=>CdR w S Z of_ b' o') of_.len 64 A c)/\CdR w S Z rest b (o+4)
def StR (w:World)(S:Nat->Prop)(Z:Prop):Sts->Nat->Nat->Prop
 | .nil,_,_=>True
 | .cons k nm args cond body els at_ rest,b,o=>
  (S b/\Free w Z b o 7/\in8 k/\in64 at_/\w.cell? ⟨b,o,none⟩=some (.int .u8 k)/\w.cell? ⟨b,o+1,none⟩=some (.string nm)/\w.cell? ⟨b,o+6,none⟩=some (.int .i64 at_))/\
   (∃A c,w.cell? ⟨b,o+2,none⟩=some (.slice A args.len c)/\SlR (λb' o'=>ExR w S Z args b' o') args.len 64 A c)/\
   (∃A c,w.cell? ⟨b,o+3,none⟩=some (.slice A cond.len c)/\SlR (λb' o'=>CdR w S Z cond b' o') cond.len 64 A c)/\
   (∃A c,w.cell? ⟨b,o+4,none⟩=some (.slice A body.len c)/\SlR (λb' o'=>StR w S Z body b' o') body.len 128 A c)/\
   (∃A c,w.cell? ⟨b,o+5,none⟩=some (.slice A els.len c)/\SlR (λb' o'=>StR w S Z els b' o') els.len 128 A c)/\StR w S Z rest b (o+7)
def VaR (w:World)(S:Nat->Prop)(Z:Prop):List Va->Nat->Nat->Prop
 | [],_,_=>True
 |v::r,b,o=>(S b/\Free w Z b o 2/\in64 v.at_/\w.cell? ⟨b,o,none⟩=some (.string v.nm)/\w.cell? ⟨b,o+1,none⟩=some (.int .i64 v.at_))/\VaR w S Z r b (o+2)
def ArR (w:World)(S:Nat->Prop)(Z:Prop):List Arr->Nat->Nat->Prop
 | [],_,_=>True
 |v::r,b,o=>(S b/\Free w Z b o 3/\in64 v.size/\in64 v.at_/\w.cell? ⟨b,o,none⟩=some (.string v.nm)/\w.cell? ⟨b,o+1,none⟩=some (.int .i64 v.size)/\w.cell? ⟨b,o+2,none⟩=some (.int .i64 v.at_))/\ArR w S Z r b (o+3)
def PrR (w:World)(S:Nat->Prop)(Z:Prop):List Prc->Nat->Nat->Prop
 | [],_,_=>True
 |v::r,b,o=>
  (S b/\Free w Z b o 4/\in64 v.at_/\w.cell? ⟨b,o,none⟩=some (.string v.nm)/\w.cell? ⟨b,o+3,none⟩=some (.int .i64 v.at_))/\
   (∃A c,w.cell? ⟨b,o+1,none⟩=some (.slice A v.params.length c)/\SlR (VaR w S Z v.params) v.params.length 24 A c)/\
   (∃A c,w.cell? ⟨b,o+2,none⟩=some (.slice A v.body.len c)/\SlR (StR w S Z v.body) v.body.len 128 A c)/\PrR w S Z r b (o+4)
structure TrR (w:World)(S:Nat->Prop)(Z:Prop)(t:Tre)(Av Aa Ap Am:Option Addr)(cv ca cp cm:Nat):Prop where
 vars:SlR (VaR w S Z t.vars) t.vars.length 24 Av cv
 arrays:SlR (ArR w S Z t.arrays) t.arrays.length 32 Aa ca
 procs:SlR (PrR w S Z t.procs) t.procs.length 72 Ap cp
 main:SlR (StR w S Z t.main) t.main.len 128 Am cm
def trV (t:Tre)(Av Aa Ap Am:Option Addr)(cv ca cp cm:Nat):Value:= .agg #[.slice Av t.vars.length cv,.slice Aa t.arrays.length ca,.slice Ap t.procs.length cp,.slice Am t.main.len cm]
section
variable {S T:Nat->Prop} {w w':World} {Z:Prop}
theorem ExR.keep (h:SameS S w w'):∀ {xs:Exs} {b o:Nat},ExR w S Z xs b o->ExR w' S Z xs b o
 | .nil,_,_,_=>trivial
 | .cons k nm n args at_ rest,b,o,hx=>by
  obtain⟨⟨hb,hf,r0,r1,r2,h0,h1,h2,h4⟩,⟨A,c,h3,hs⟩,hr⟩:=hx;exact⟨⟨hb,hf.keep h hb,r0,r1,r2,(h _ hb).1.trans h0,(h _ hb).1.trans h1,(h _ hb).1.trans h2,(h _ hb).1.trans h4⟩,⟨A,c,(h _ hb).1.trans h3,hs.imp λ_ _=>ExR.keep h⟩,ExR.keep h hr⟩
theorem CdR.keep (h:SameS S w w'):∀ {xs:Cds} {b o:Nat},CdR w S Z xs b o->CdR w' S Z xs b o
 | .nil,_,_,_=>trivial
 | .cons k args of_ at_ rest,b,o,hx=>by
  obtain⟨⟨hb,hf,r0,r1,h0,h4⟩,⟨A,c,h3,hs⟩,⟨A2,c2,h5,GH⟩,hr⟩:=hx;exact⟨⟨hb,hf.keep h hb,r0,r1,(h _ hb).1.trans h0,(h _ hb).1.trans h4⟩,⟨A,c,(h _ hb).1.trans h3,hs.imp λ_ _=>ExR.keep h⟩,⟨A2,c2,(h _ hb).1.trans h5,GH.imp λ_ _=>CdR.keep h⟩,CdR.keep h hr⟩
theorem StR.keep (h:SameS S w w'):∀ {xs:Sts} {b o:Nat},StR w S Z xs b o->StR w' S Z xs b o
 | .nil,_,_,_=>trivial
 | .cons k nm args cond body els at_ rest,b,o,hx=>by
  obtain⟨⟨hb,hf,r0,r1,h0,h1,h4⟩,⟨A,c,h3,hs⟩,⟨A2,c2,h5,GH⟩,⟨A3,c3,h6,KT⟩,⟨A4,c4,h7,Mt⟩,hr⟩:=hx;exact⟨⟨hb,hf.keep h hb,r0,r1,(h _ hb).1.trans h0,(h _ hb).1.trans h1,(h _ hb).1.trans h4⟩,⟨A,c,(h _ hb).1.trans h3,hs.imp λ_ _=>ExR.keep h⟩,⟨A2,c2,(h _ hb).1.trans h5,GH.imp λ_ _=>CdR.keep h⟩,
   ⟨A3,c3,(h _ hb).1.trans h6,KT.imp λ_ _=>StR.keep h⟩,⟨A4,c4,(h _ hb).1.trans h7,Mt.imp λ_ _=>StR.keep h⟩,StR.keep h hr⟩
theorem VaR.keep (h:SameS S w w'):∀ {xs:List Va} {b o:Nat},VaR w S Z xs b o->VaR w' S Z xs b o
 | [],_,_,_=>trivial
 |_::_,b,o,hx=>by
  obtain⟨⟨hb,hf,r0,h0,h1⟩,hr⟩:=hx;exact⟨⟨hb,hf.keep h hb,r0,(h _ hb).1.trans h0,(h _ hb).1.trans h1⟩,VaR.keep h hr⟩
theorem ArR.keep (h:SameS S w w'):∀ {xs:List Arr} {b o:Nat},ArR w S Z xs b o->ArR w' S Z xs b o
 | [],_,_,_=>trivial
 |_::_,b,o,hx=>by
  obtain⟨⟨hb,hf,r0,r1,h0,h1,h2⟩,hr⟩:=hx;exact⟨⟨hb,hf.keep h hb,r0,r1,(h _ hb).1.trans h0,(h _ hb).1.trans h1,(h _ hb).1.trans h2⟩,ArR.keep h hr⟩
theorem PrR.keep (h:SameS S w w'):∀ {xs:List Prc} {b o:Nat},PrR w S Z xs b o->PrR w' S Z xs b o
 | [],_,_,_=>trivial
 |_::_,b,o,hx=>by
  obtain⟨⟨hb,hf,r0,h0,h1⟩,⟨A,c,h3,hs⟩,⟨A2,c2,h5,GH⟩,hr⟩:=hx;exact⟨⟨hb,hf.keep h hb,r0,(h _ hb).1.trans h0,(h _ hb).1.trans h1⟩,⟨A,c,(h _ hb).1.trans h3,hs.imp λ_ _=>VaR.keep h⟩,⟨A2,c2,(h _ hb).1.trans h5,GH.imp λ_ _=>StR.keep h⟩,PrR.keep h hr⟩
theorem TrR.keep (h:SameS S w w'){t:Tre}{Av Aa Ap Am:Option Addr}{cv ca cp cm:Nat}(hx:TrR w S Z t Av Aa Ap Am cv ca cp cm):TrR w' S Z t Av Aa Ap Am cv ca cp cm:=
 ⟨hx.vars.imp λ_ _=>VaR.keep h,hx.arrays.imp λ_ _=>ArR.keep h,hx.procs.imp λ_ _=>PrR.keep h,hx.main.imp λ_ _=>StR.keep h⟩
theorem ExR.more (h:∀b,S b->T b):∀ {xs:Exs} {b o:Nat},ExR w S Z xs b o->ExR w T Z xs b o
 | .nil,_,_,_=>trivial
 | .cons k nm n args at_ rest,b,o,hx=>by
  obtain⟨⟨hb,hf⟩,⟨A,c,h3,hs⟩,hr⟩:=hx;exact⟨⟨h _ hb,hf⟩,⟨A,c,h3,hs.imp λ_ _=>ExR.more h⟩,ExR.more h hr⟩
theorem CdR.more (h:∀b,S b->T b):∀ {xs:Cds} {b o:Nat},CdR w S Z xs b o->CdR w T Z xs b o
 | .nil,_,_,_=>trivial
 | .cons k args of_ at_ rest,b,o,hx=>by
  obtain⟨⟨hb,hf⟩,⟨A,c,h3,hs⟩,⟨A2,c2,h5,GH⟩,hr⟩:=hx;exact⟨⟨h _ hb,hf⟩,⟨A,c,h3,hs.imp λ_ _=>ExR.more h⟩,⟨A2,c2,h5,GH.imp λ_ _=>CdR.more h⟩,CdR.more h hr⟩
theorem StR.more (h:∀b,S b->T b):∀ {xs:Sts} {b o:Nat},StR w S Z xs b o->StR w T Z xs b o
 | .nil,_,_,_=>trivial
 | .cons k nm args cond body els at_ rest,b,o,hx=>by
  obtain⟨⟨hb,hf⟩,⟨A,c,h3,hs⟩,⟨A2,c2,h5,GH⟩,⟨A3,c3,h6,KT⟩,⟨A4,c4,h7,Mt⟩,hr⟩:=hx;exact⟨⟨h _ hb,hf⟩,⟨A,c,h3,hs.imp λ_ _=>ExR.more h⟩,⟨A2,c2,h5,GH.imp λ_ _=>CdR.more h⟩,⟨A3,c3,h6,KT.imp λ_ _=>StR.more h⟩,⟨A4,c4,h7,Mt.imp λ_ _=>StR.more h⟩,StR.more h hr⟩
theorem VaR.more (h:∀b,S b->T b):∀ {xs:List Va} {b o:Nat},VaR w S Z xs b o->VaR w T Z xs b o
 | [],_,_,_=>trivial
 |_::_,b,o,hx=>⟨⟨h _ hx.1.1,hx.1.2⟩,VaR.more h hx.2⟩
theorem ArR.more (h:∀b,S b->T b):∀ {xs:List Arr} {b o:Nat},ArR w S Z xs b o->ArR w T Z xs b o
 | [],_,_,_=>trivial
 |_::_,b,o,hx=>⟨⟨h _ hx.1.1,hx.1.2⟩,ArR.more h hx.2⟩
theorem PrR.more (h:∀b,S b->T b):∀ {xs:List Prc} {b o:Nat},PrR w S Z xs b o->PrR w T Z xs b o
 | [],_,_,_=>trivial
 |_::_,b,o,hx=>by
  obtain⟨⟨hb,hf⟩,⟨A,c,h3,hs⟩,⟨A2,c2,h5,GH⟩,hr⟩:=hx;exact⟨⟨h _ hb,hf⟩,⟨A,c,h3,hs.imp λ_ _=>VaR.more h⟩,⟨A2,c2,h5,GH.imp λ_ _=>StR.more h⟩,PrR.more h hr⟩
theorem TrR.more (h:∀b,S b->T b){t:Tre}{Av Aa Ap Am:Option Addr}{cv ca cp cm:Nat}(hx:TrR w S Z t Av Aa Ap Am cv ca cp cm):TrR w T Z t Av Aa Ap Am cv ca cp cm:=
 ⟨hx.vars.imp λ_ _=>VaR.more h,hx.arrays.imp λ_ _=>ArR.more h,hx.procs.imp λ_ _=>PrR.more h,hx.main.imp λ_ _=>StR.more h⟩
theorem ExR.drop:∀(k:Nat) {xs:Exs} {b o:Nat},ExR w S Z xs b o->ExR w S Z (Exs.drop k xs) b (o+k*5)
 |0,_,_,_,h=>by simpa[Exs.drop]using h
 |k+1,.nil,_,_,_=>trivial
 |k+1,.cons _ _ _ _ _ rest,b,o,h=>by
  have:=ExR.drop k h.2.2;simp only[Exs.drop];rw[show o+(k+1)*5=o+5+k*5 from by omega];exact this
theorem CdR.drop:∀(k:Nat) {xs:Cds} {b o:Nat},CdR w S Z xs b o->CdR w S Z (Cds.drop k xs) b (o+k*4)
 |0,_,_,_,h=>by simpa[Cds.drop]using h
 |k+1,.nil,_,_,_=>trivial
 |k+1,.cons _ _ _ _ rest,b,o,h=>by
  have:=CdR.drop k h.2.2.2;simp only[Cds.drop];rw[show o+(k+1)*4=o+4+k*4 from by omega];exact this
theorem StR.drop:∀(k:Nat) {xs:Sts} {b o:Nat},StR w S Z xs b o->StR w S Z (Sts.drop k xs) b (o+k*7)
 |0,_,_,_,h=>by simpa[Sts.drop]using h
 |k+1,.nil,_,_,_=>trivial
 |k+1,.cons _ _ _ _ _ _ _ rest,b,o,h=>by
  have:=StR.drop k h.2.2.2.2.2;simp only[Sts.drop];rw[show o+(k+1)*7=o+7+k*7 from by omega];exact this
theorem VaR.drop:∀(k:Nat) {xs:List Va} {b o:Nat},VaR w S Z xs b o->VaR w S Z (xs.drop k) b (o+k*2)
 |0,_,_,_,h=>by simpa using h
 |k+1, [],_,_,_=>by simp[VaR]
 |k+1,_::r,b,o,h=>by
  have:=VaR.drop k h.2;rw[show o+(k+1)*2=o+2+k*2 from by omega];simpa using this
theorem ArR.drop:∀(k:Nat) {xs:List Arr} {b o:Nat},ArR w S Z xs b o->ArR w S Z (xs.drop k) b (o+k*3)
 |0,_,_,_,h=>by simpa using h
 |k+1, [],_,_,_=>by simp[ArR]
 |k+1,_::r,b,o,h=>by
  have:=ArR.drop k h.2;rw[show o+(k+1)*3=o+3+k*3 from by omega];simpa using this
theorem PrR.drop:∀(k:Nat) {xs:List Prc} {b o:Nat},PrR w S Z xs b o->PrR w S Z (xs.drop k) b (o+k*4)
 |0,_,_,_,h=>by simpa using h
 |k+1, [],_,_,_=>by simp[PrR]
 |k+1,_::r,b,o,h=>by
  have:=PrR.drop k h.2.2.2;rw[show o+(k+1)*4=o+4+k*4 from by omega];simpa using this
end
structure Fr (T:Nat->Prop)(w w':World):Prop where
 os:w'.os=w.os
 tape:w'.tape=w.tape
 output:w'.output=w.output
 size:w.heap.size<=w'.heap.size
 block:∀i,i < w.heap.size->¬T i->w'.heap[i]?=w.heap[i]?
theorem Fr.refl (T:Nat->Prop)(w:World):Fr T w w:=⟨rfl,rfl,rfl,Nat.le_refl _,λ_ _ _=>rfl⟩
theorem Fr.trans {T:Nat->Prop}{a b c:World}(h:Fr T a b)(k:Fr T b c):Fr T a c:=
 ⟨k.os.trans h.os,k.tape.trans h.tape,k.output.trans h.output,Nat.le_trans h.size k.size,λi hi ht=>(k.block i (Nat.lt_of_lt_of_le hi h.size) ht).trans (h.block i hi ht)⟩
theorem Fr.mono {T T':Nat->Prop}{w w':World}(h:Fr T w w')(ht:∀i,i < w.heap.size->T i->T' i):Fr T' w w':=
 ⟨h.os,h.tape,h.output,h.size,λi hi hn=>h.block i hi λt=>hn (ht i hi t)⟩
theorem Fr.alloc {T:Nat->Prop}{w w':World}(h:Fr T w w')(o:Obj):Fr T w (w'.alloc o):=
 h.trans ⟨rfl,rfl,rfl,by simp,λi hi _=>Below.heap_alloc w' o i hi⟩
theorem Fr.setCell {T:Nat->Prop}{w w':World}(h:Fr T w w'){p:Addr}(hp:T p.block\/w.heap.size<=p.block)(v:Value):Fr T w (w'.setCell p v):=
 ⟨h.os,h.tape,h.output,by simpa using h.size,λi hi hn=>(Below.heap_setCell w' p v i (λe=>hp.elim (λhp=>hn (e▸hp)) (λhp=>absurd hi (by omega)))).trans (h.block i hi hn)⟩
theorem Fr.drew {T:Nat->Prop}{w w':World}(h:Fr T w w'):Fr T w w'.drew:=⟨h.os,h.tape,h.output,h.size,h.block⟩
theorem Fr.drewN {T:Nat->Prop}{w w':World}(h:Fr T w w')(q:Nat):Fr T w (w'.drewN q):=⟨h.os,h.tape,h.output,h.size,h.block⟩
theorem Fr.of {T:Nat->Prop}{B:Nat}{w w':World}(h:Below B w w')(hb:∀i,i < w.heap.size->B<=i->T i):Fr T w w':=
 ⟨h.os,h.tape,h.output,h.size,λi hi hn=>h.block i (Nat.lt_of_not_le λhl=>hn (hb i hi hl))⟩
theorem Fr.below {T:Nat->Prop}{w w':World}(h:Below w.heap.size w w'):Fr T w w':=Fr.of h λi h1 h2=>absurd h1 (by omega)
theorem Fr.grown {T:Nat->Prop}{w w':World}{row:Option Nat}(h:w.grownBy w' row)(hr:∀g,row=some g->g < w.heap.size->T g):Fr T w w':=
 ⟨h.os,h.tape,h.output,h.size,λi hi hn=>h.block i hi λe=>hn (hr i e.symm hi)⟩
theorem Fr.to_below {T:Nat->Prop}{B:Nat}{w w':World}(h:Fr T w w')(hB:B<=w.heap.size)(ht:∀i,i < B->¬T i):Below B w w':=
 ⟨h.os,h.tape,h.output,h.size,λi hi=>h.block i (Nat.lt_of_lt_of_le hi hB) (ht i hi)⟩
theorem Fr.cell {T:Nat->Prop}{w w':World}(h:Fr T w w'){p:Addr}(hp:p.block < w.heap.size)(ht:¬T p.block):w'.cell? p=w.cell? p:=World.cell?_of_block (h.block _ hp ht)
theorem Fr.frozen {T:Nat->Prop}{w w':World}(h:Fr T w w'){p:Addr}(hp:p.block < w.heap.size)(ht:¬T p.block):w'.frozen? p=w.frozen? p:=World.frozen?_of_block (h.block _ hp ht)
theorem Fr.same {S T:Nat->Prop}{w w':World}(h:Fr T w w')(hs:∀b,S b->b < w.heap.size/\¬T b):SameS S w w':=λp hp=>⟨h.cell (hs _ hp).1 (hs _ hp).2,h.frozen (hs _ hp).1 (hs _ hp).2⟩
theorem Fr.own {g:Nat}{w w':World}(h:Fr (λb=>b=g) w w')(i:Nat)(v:Value):Fr (λb=>b=g) w (w'.setCell ⟨g,i,none⟩ v):=h.setCell (p:=⟨g,i,none⟩) (Or.inl rfl) v
theorem aH{T:Nat->Prop}{w:World}:Fr T w w:=Fr.refl _ _
theorem aJ{g:Nat}{w w':World}(h:Fr (λb=>b=g) w w'){i:Nat}{v:Value}:Fr (λb=>b=g) w (w'.setCell ⟨g,i,none⟩ v):=Fr.own h i v
theorem Fr.high {T:Nat->Prop}{g:Nat}{w w':World}(h:Fr T w w')(hg:w.heap.size<=g)(i:Nat)(v:Value):Fr T w (w'.setCell ⟨g,i,none⟩ v):=h.setCell (p:=⟨g,i,none⟩) (Or.inr hg) v
def Bk (w:World)(g:Nat)(t:TypeId)(cs:Array Value):Prop:=w.heap[g]?=some (.cells cs t (0,0))
theorem Bk.cell {w:World}{g:Nat}{t:TypeId}{cs:Array Value}(h:Bk w g t cs)(i:Nat):w.cell? ⟨g,i,none⟩=cs[i]?:=cell_of_row w g i cs t (0,0) h
theorem Bk.frozen {w:World}{g:Nat}{t:TypeId}{cs:Array Value}(h:Bk w g t cs)(i:Nat):w.frozen? ⟨g,i,none⟩=false:=by
 unfold Bk at h;simp[World.frozen?,h]
theorem Bk.new (w:World)(t:TypeId)(cs:Array Value):Bk (w.alloc (.cells cs t)) w.heap.size t cs:=heap_alloc_new w _
theorem Bk.lt {w:World}{g:Nat}{t:TypeId}{cs:Array Value}(h:Bk w g t cs):g < w.heap.size:=by
 rcases Nat.lt_or_ge g w.heap.size with Hk|G9
 ·exact Hk
 ·unfold Bk at h;rw[Array.getElem?_eq_none G9]at h;cases h
theorem Bk.set_ {w:World}{g:Nat}{t:TypeId}{cs:Array Value}(h:Bk w g t cs)(i:Nat)(u:Value):Bk (w.setCell ⟨g,i,none⟩ u) g t (cs.setIfInBounds i u):=by
 unfold Bk at h ⊢;simp[World.setCell,Array.getElem?_modify,h]
theorem Bk.far {w:World}{g:Nat}{t:TypeId}{cs:Array Value}(h:Bk w g t cs){p:Addr}(hp:g≠p.block)(u:Value):Bk (w.setCell p u) g t cs:=(Below.heap_setCell w p u g hp).trans h
theorem Bk.fr {T:Nat->Prop}{w w':World}{g:Nat}{t:TypeId}{cs:Array Value}(h:Bk w g t cs)(hf:Fr T w w')(ht:¬T g):Bk w' g t cs:=(hf.block g h.lt ht).trans h
theorem Bk.alloc {w:World}{g:Nat}{t:TypeId}{cs:Array Value}(h:Bk w g t cs)(o:Obj):Bk (w.alloc o) g t cs:=(Below.heap_alloc w o g h.lt).trans h
theorem Bk.new_at (w:World)(t:TypeId)(cs:Array Value){n:Nat}(h:w.heap.size=n):Bk (w.alloc (.cells cs t)) n t cs:=h▸Bk.new w t cs
def NoT:Nat->Prop:=λ_=>False
theorem aI{w:World}:Fr NoT w w:=Fr.refl _ _
theorem Fr.any {T:Nat->Prop}{w w':World}(h:Fr NoT w w'):Fr T w w':=h.mono λ_ _ h=>h.elim
theorem Fr.plain {w w':World}(h:Fr NoT w w'):Below w.heap.size w w':=h.to_below (Nat.le_refl _) λ_ _ h=>h
theorem Bk.fr0 {w w':World}{g:Nat}{t:TypeId}{cs:Array Value}(h:Bk w g t cs)(hf:Fr NoT w w'):Bk w' g t cs:=h.fr hf λh=>h
structure Ex where
 k:Int
 nm:ByteArray
 n:Int
 args:Exs
 at_:Int
def Ex.cons (x:Ex)(r:Exs):Exs:= .cons x.k x.nm x.n x.args x.at_ r
structure Cn where
 k:Int
 args:Exs
 of_:Cds
 at_:Int
def Cn.cons (x:Cn)(r:Cds):Cds:= .cons x.k x.args x.of_ x.at_ r
structure St where
 k:Int
 nm:ByteArray
 args:Exs
 cond:Cds
 body:Sts
 els:Sts
 at_:Int
def St.cons (x:St)(r:Sts):Sts:= .cons x.k x.nm x.args x.cond x.body x.els x.at_ r
def zai:List St->Sts
 | []=> .nil
 |x::r=>x.cons (zai r)
theorem zbZ:∀xs,(zai xs).len =xs.length
 | []=>rfl
 |x::r=>by show(zai r).len +1=_;rw[zbZ r];rfl
def za0:List Ex->Exs
 | []=> .nil
 |x::r=>x.cons (za0 r)
theorem zbD:∀xs,(za0 xs).len =xs.length
 | []=>rfl
 |x::r=>by show(za0 r).len +1=_;rw[zbD r];rfl
def New (L:Nat)(w:World):Nat->Prop:=λb=>L<=b/\b < w.heap.size
def NewR (L:Nat)(v:Value)(w:World):Nat->Prop:=λb=>L<=b/\b < w.heap.size/\v.ownBlock≠some b
