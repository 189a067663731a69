import Derived.Test.YtchddhcajpagjaaGreatQSc
set_option linter.all false
set_option maxRecDepth 100000
namespace Go.PW
def abF{α:Type}(f:Int->Zg->α)(l:List Zg)(v:Int):List α:=((l.take v.toNat).zipIdx.filter fun p=>p.1.Kind==1).map fun p=>f p.2 p.1
theorem Zaw9{α:Type}{f:Int->Zg->α}{l:List Zg}{v w:Int}{x:Zg}(hx:l[v.toNat]?=some x)(h0:0<=v)(hw:w=v+1) :
 abF f l w=abF f l v++if x.Kind==1 then [f v x] else []:=by
 subst hw
 have hv:(v+1).toNat=v.toNat+1:=by omega
 have hlt:=(List.getElem?_eq_some_iff.1 hx).1
 unfold abF
 rw [hv,List.take_add_one,hx,Option.toList_some,List.zipIdx_append,List.filter_append,List.map_append]
 congr 1
 rw [List.length_take,Nat.min_eq_left (by omega),Nat.zero_add]
 simp only [List.zipIdx_cons,List.zipIdx_nil,List.filter_cons,List.filter_nil]
 split
 .simp only [List.map_cons,List.map_nil];rw [Int.toNat_of_nonneg h0]
 .rfl
theorem Z1n{α:Type}{f:Int->Zg->α}{l:List Zg}{c z a:List α}{v w:Int}{x:Zg}{y:α}(hz:z=a++[y])(ha:a=c++abF f l v)(hx:l[v.toNat]?=some x)(h0:0<=v)(hw:w=v+1)(hk:x.Kind=1)(hy:y=f v x):z=c++abF f l w:=by
 rw [Zaw9 hx h0 hw,if_pos (by simpa using hk),hz,ha,hy,List.append_assoc]
theorem Zajz{α:Type}{f:Int->Zg->α}{l:List Zg}{c a:List α}{v w:Int}{x:Zg}(ha:a=c++abF f l v)(hx:l[v.toNat]?=some x)(h0:0<=v)(hw:w=v+1)(hk:¬ x.Kind=1):a=c++abF f l w:=by
 rw [Zaw9 hx h0 hw,if_neg (by simpa using hk),ha,List.append_nil]
theorem Za18{α:Type}{f:Int->Zg->α}{l:List Zg}{c a:List α}(h:a=c):a=c++abF f l 0:=by
 rw [h];simp [abF]
def obF1{α:Type}(f:Ze->Int->Zg->α)(cards:List Zn)(o:Ze):List α:=if o.Zone=0 then abF (f o) (baV cards o).Abilities (baV cards o).Abilities.length else []
def obF{α:Type}(f:Ze->Int->Zg->α)(cards:List Zn)(l:List Ze)(v:Int):List α:=(l.take v.toNat).flatMap (obF1 f cards)
theorem Za19{α:Type}{f:Ze->Int->Zg->α}{cards:List Zn}{l:List Ze}:([]:List α)=obF f cards l 0:=by simp [obF]
theorem Zaxa{α:Type}{f:Ze->Int->Zg->α}{cards:List Zn}{l:List Ze}{v w:Int}{x:Ze}(hx:l[v.toNat]?=some x)(h0:0<=v)(hw:w=v+1):obF f cards l w=obF f cards l v++obF1 f cards x:=by
 subst hw
 have hv:(v+1).toNat=v.toNat+1:=by omega
 unfold obF
 rw [hv,List.take_add_one,hx,Option.toList_some,List.flatMap_append]
 simp
theorem Zaj1{α:Type}{f:Ze->Int->Zg->α}{cards:List Zn}{l:List Ze}{a:List α}{v w:Int}{x:Ze}(ha:a=obF f cards l v)(hx:l[v.toNat]?=some x)(h0:0<=v)(hw:w=v+1)(hz:x.Zone≠0):a=obF f cards l w:=by
 rw [Zaxa hx h0 hw,obF1,if_neg hz,List.append_nil,ha]
theorem Zaps{α:Type}{f:Ze->Int->Zg->α}{cards:List Zn}{l:List Ze}{a:List α}{v w u:Int}{x:Ze}{t:List Zg}(ha:a=obF f cards l v++abF (f x) t u)(ht:t=(baV cards x).Abilities)(hx:l[v.toNat]?=some x)(h0:0<=v)(hw:w=v+1)(hz:x.Zone=0)(hu:u=t.length):a=obF f cards l w:=by
 rw [Zaxa hx h0 hw,obF1,if_pos hz,ha,hu,ht]
theorem Za0l{α:Type}{f:Int->Zg->α}{l:List Zg}{v:Int}:(abF f l v).length<=l.length:=by
 unfold abF
 rw [List.length_map]
 refine Nat.le_trans (List.length_filter_le _ _) ?_
 rw [List.length_zipIdx,List.length_take];omega
theorem Zafn{α:Type}{f:Ze->Int->Zg->α}{cards:List Zn}{l:List Ze}{v:Int}(h:∀ c,c∈cards->c.Abilities.length<=8):(obF f cards l v).length<=8*l.length:=by
 unfold obF
 have key:∀ m:List Ze,(m.flatMap (obF1 f cards)).length<=8*m.length:=by
  intro m
  induction m with
  | nil=>simp
  | cons o r ih=>
   rw [List.flatMap_cons,List.length_append,List.length_cons]
   have:(obF1 f cards o).length<=8:=by
    unfold obF1
    split
    .exact Nat.le_trans Za0l (Za0j h o)
    .simp
   omega
 refine Nat.le_trans (key _) ?_
 rw [List.length_take]
 omega
def coF{α:Type}(g:Zdn->α)(l:List Zdn)(v:Int):List α:=(l.take v.toNat).map g
theorem Zaak{α:Type}{g:Zdn->α}{l:List Zdn}{c a z:List α}{v w:Int}{x:Zdn}{y:α}(hz:z=a++[y])(ha:a=c++coF g l v)(hx:l[v.toNat]?=some x)(h0:0<=v)(hw:w=v+1)(hy:y=g x):z=c++coF g l w:=by
 subst hw
 have hv:(v+1).toNat=v.toNat+1:=by omega
 unfold coF
 rw [hv,List.take_add_one,hx,Option.toList_some,List.map_append,hz,ha,hy,List.append_assoc]
 rfl
theorem Za7k{α:Type}{g:Zdn->α}{l:List Zdn}{c a:List α}(h:a=c):a=c++coF g l 0:=by rw [h];simp [coF]
def FS{α:Type}(f:Ze->Int->Zg->α)(g:Zdn->α)(cards:List Zn)(s:Zl):List α:=obF f cards s.Objects s.Objects.length++coF g s.Conts s.Conts.length
theorem Za9v{α:Type}{f:Ze->Int->Zg->α}{g:Zdn->α}{cards:List Zn}{s:Zl}{a:List α}{v:Int}{l:List Zdn}(h:a=obF f cards s.Objects s.Objects.length++coF g l v)(hl:l=s.Conts)(hv:v=l.length):a=FS f g cards s:=by
 rw [h,hv,hl];rfl
theorem Za9w{α:Type}{f:Ze->Int->Zg->α}{g:Zdn->α}{cards:List Zn}{s:Zl}(h:∀ c,c∈cards->c.Abilities.length<=8):(FS f g cards s).length<=8*s.Objects.length+s.Conts.length:=by
 unfold FS coF
 have:=Zafn (f:=f) (l:=s.Objects) (v:=s.Objects.length) h
 rw [List.length_append,List.length_map,List.length_take]
 omega
abbrev Za8p:Zc:=⟨0,0,0,0,0,0,0,[],0,0,⟨0,0⟩,⟨0,0⟩,⟨0,0⟩⟩
def fL(o:Ze)(k:Int)(a:Zg):Zal:=⟨o.Id,k,o.Control,o.Stamp,false,[],a.Filter,a.Mods⟩
def gL(c:Zdn):Zal:=⟨c.Source,-1,c.Control,c.Stamp,true,c.Objects,Za8p,c.Mods⟩
end Go.PW
