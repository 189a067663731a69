import Derived.Test.YtchddhcajpagjaaGreatQSc
set_option linter.all false
set_option maxRecDepth 100000
namespace Go.PW
def abF{α:Type}(f:Int->Ze->α)(l:List Ze)(v:Int):List α:=((l.take v.toNat).zipIdx.filter fun p=>p.1.Kind==1).map fun p=>f p.2 p.1
theorem Zaxl{α:Type}{f:Int->Ze->α}{l:List Ze}{v w:Int}{x:Ze}(hx:l[v.toNat]?=some x)(h0:0<=v)(hw:w=v+1) :
 abF f l w=abF f l v++if x.Kind==1 then [f v x] else []:=by
 subst hw
 have hv:(v+1).toNat=v.toNat+1:=by omega
 have hlt:=(List.getElem?_eq_some_iff.1 hx).1
 unfold abF
 rw [hv,List.take_add_one,hx,Option.toList_some,List.zipIdx_append,List.filter_append,List.map_append]
 congr 1
 rw [List.length_take,Nat.min_eq_left (by omega),Nat.zero_add]
 simp only [List.zipIdx_cons,List.zipIdx_nil,List.filter_cons,List.filter_nil]
 split
 .simp only [List.map_cons,List.map_nil];rw [Int.toNat_of_nonneg h0]
 .rfl
theorem Za05{α:Type}{f:Int->Ze->α}{l:List Ze}{c z a:List α}{v w:Int}{x:Ze}{y:α}(hz:z=a++[y])(ha:a=c++abF f l v)(hx:l[v.toNat]?=some x)(h0:0<=v)(hw:w=v+1)(hk:x.Kind=1)(hy:y=f v x):z=c++abF f l w:=by
 rw [Zaxl hx h0 hw,if_pos (by simpa using hk),hz,ha,hy,List.append_assoc]
theorem Za8u{α:Type}{f:Int->Ze->α}{l:List Ze}{c a:List α}{v w:Int}{x:Ze}(ha:a=c++abF f l v)(hx:l[v.toNat]?=some x)(h0:0<=v)(hw:w=v+1)(hk:¬ x.Kind=1):a=c++abF f l w:=by
 rw [Zaxl hx h0 hw,if_neg (by simpa using hk),ha,List.append_nil]
theorem Zbgx{α:Type}{f:Int->Ze->α}{l:List Ze}{c a:List α}(h:a=c):a=c++abF f l 0:=by
 rw [h];simp [abF]
def obF1{α:Type}(f:Zc->Int->Ze->α)(cards:List Zk)(o:Zc):List α:=if o.Zone=0 then abF (f o) (baV cards o).Abilities (baV cards o).Abilities.length else []
def obF{α:Type}(f:Zc->Int->Ze->α)(cards:List Zk)(l:List Zc)(v:Int):List α:=(l.take v.toNat).flatMap (obF1 f cards)
theorem Zbgy{α:Type}{f:Zc->Int->Ze->α}{cards:List Zk}{l:List Zc}:([]:List α)=obF f cards l 0:=by simp [obF]
theorem Zaxm{α:Type}{f:Zc->Int->Ze->α}{cards:List Zk}{l:List Zc}{v w:Int}{x:Zc}(hx:l[v.toNat]?=some x)(h0:0<=v)(hw:w=v+1):obF f cards l w=obF f cards l v++obF1 f cards x:=by
 subst hw
 have hv:(v+1).toNat=v.toNat+1:=by omega
 unfold obF
 rw [hv,List.take_add_one,hx,Option.toList_some,List.flatMap_append]
 simp
theorem Za8v{α:Type}{f:Zc->Int->Ze->α}{cards:List Zk}{l:List Zc}{a:List α}{v w:Int}{x:Zc}(ha:a=obF f cards l v)(hx:l[v.toNat]?=some x)(h0:0<=v)(hw:w=v+1)(hz:x.Zone≠0):a=obF f cards l w:=by
 rw [Zaxm hx h0 hw,obF1,if_neg hz,List.append_nil,ha]
theorem Zbb6{α:Type}{f:Zc->Int->Ze->α}{cards:List Zk}{l:List Zc}{a:List α}{v w u:Int}{x:Zc}{t:List Ze}(ha:a=obF f cards l v++abF (f x) t u)(ht:t=(baV cards x).Abilities)(hx:l[v.toNat]?=some x)(h0:0<=v)(hw:w=v+1)(hz:x.Zone=0)(hu:u=t.length):a=obF f cards l w:=by
 rw [Zaxm hx h0 hw,obF1,if_pos hz,ha,hu,ht]
theorem Za06{α:Type}{f:Int->Ze->α}{l:List Ze}{v:Int}:(abF f l v).length<=l.length:=by
 unfold abF
 rw [List.length_map]
 refine Nat.le_trans (List.length_filter_le _ _) ?_
 rw [List.length_zipIdx,List.length_take];omega
theorem Zaeu{α:Type}{f:Zc->Int->Ze->α}{cards:List Zk}{l:List Zc}{v:Int}(h:∀ c,c∈cards->c.Abilities.length<=8):(obF f cards l v).length<=8*l.length:=by
 unfold obF
 have key:∀ m:List Zc,(m.flatMap (obF1 f cards)).length<=8*m.length:=by
  intro m
  induction m with
  | nil=>simp
  | cons o r ih=>
   rw [List.flatMap_cons,List.length_append,List.length_cons]
   have:(obF1 f cards o).length<=8:=by
    unfold obF1
    split
    .exact Nat.le_trans Za06 (Za03 h o)
    .simp
   omega
 refine Nat.le_trans (key _) ?_
 rw [List.length_take]
 omega
def coF{α:Type}(g:Zc6->α)(l:List Zc6)(v:Int):List α:=(l.take v.toNat).map g
theorem Zaxn{α:Type}{g:Zc6->α}{l:List Zc6}{c a z:List α}{v w:Int}{x:Zc6}{y:α}(hz:z=a++[y])(ha:a=c++coF g l v)(hx:l[v.toNat]?=some x)(h0:0<=v)(hw:w=v+1)(hy:y=g x):z=c++coF g l w:=by
 subst hw
 have hv:(v+1).toNat=v.toNat+1:=by omega
 unfold coF
 rw [hv,List.take_add_one,hx,Option.toList_some,List.map_append,hz,ha,hy,List.append_assoc]
 rfl
theorem Zbgz{α:Type}{g:Zc6->α}{l:List Zc6}{c a:List α}(h:a=c):a=c++coF g l 0:=by rw [h];simp [coF]
def FS{α:Type}(f:Zc->Int->Ze->α)(g:Zc6->α)(cards:List Zk)(s:Zn):List α:=obF f cards s.Objects s.Objects.length++coF g s.Conts s.Conts.length
theorem Zbds{α:Type}{f:Zc->Int->Ze->α}{g:Zc6->α}{cards:List Zk}{s:Zn}{a:List α}{v:Int}{l:List Zc6}(h:a=obF f cards s.Objects s.Objects.length++coF g l v)(hl:l=s.Conts)(hv:v=l.length):a=FS f g cards s:=by
 rw [h,hv,hl];rfl
theorem Zbdt{α:Type}{f:Zc->Int->Ze->α}{g:Zc6->α}{cards:List Zk}{s:Zn}(h:∀ c,c∈cards->c.Abilities.length<=8):(FS f g cards s).length<=8*s.Objects.length+s.Conts.length:=by
 unfold FS coF
 have:=Zaeu (f:=f) (l:=s.Objects) (v:=s.Objects.length) h
 rw [List.length_append,List.length_map,List.length_take]
 omega
abbrev Zbb7:Zd:=⟨0,0,0,0,0,0,0,[],0,0,⟨0,0⟩,⟨0,0⟩,⟨0,0⟩⟩
def fL(o:Zc)(k:Int)(a:Ze):Zaj:=⟨o.Id,k,o.Control,o.Stamp,false,[],a.Filter,a.Mods⟩
def gL(c:Zc6):Zaj:=⟨c.Source,-1,c.Control,c.Stamp,true,c.Objects,Zbb7,c.Mods⟩
end Go.PW
